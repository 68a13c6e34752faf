/-
  Plain mathematics of fractions and means. No program in sight.
-/
import Derived.Test.YtelnajpjanmliaaPlayMath
set_option linter.unusedVariables false
set_option linter.unusedSimpArgs false
namespace Go.Proofs.Ytelnajpjanmliaa
open Go.RowKit Slm
/-- A fraction in lowest terms. -/
def cutF (x n : Nat) : Nat × Nat := (x / x.gcd n, n / x.gcd n)
theorem cutF_mul (x n : Nat) {k : Nat} (hk : 0 < k) : cutF (x * k) (n * k) = cutF x n := by
  unfold cutF
  rw [Nat.gcd_mul_right, Nat.mul_div_mul_right _ _ hk, Nat.mul_div_mul_right _ _ hk]
theorem cutF_eq {x n y m : Nat} (hn : 0 < n) (hm : 0 < m) (h : x * m = y * n) : cutF x n = cutF y m := by
  rw [← cutF_mul x n hm, ← cutF_mul y m hn, h, Nat.mul_comm m n]
theorem cutF_pos {x n : Nat} (hn : 0 < n) : 0 < (cutF x n).2 := by
  unfold cutF
  exact Nat.div_pos (Nat.le_of_dvd hn (Nat.gcd_dvd_right _ _)) (Nat.gcd_pos_of_pos_right _ hn)
theorem cutF_le (x n : Nat) : (cutF x n).1 ≤ x ∧ (cutF x n).2 ≤ n := ⟨Nat.div_le_self _ _, Nat.div_le_self _ _⟩
theorem cutF_rel (x n : Nat) : (cutF x n).1 * n = x * (cutF x n).2 := by
  unfold cutF
  simp only
  obtain ⟨a, ha⟩ := Nat.gcd_dvd_left x n
  obtain ⟨b, hb⟩ := Nat.gcd_dvd_right x n
  rw [← Nat.mul_div_assoc _ (Nat.gcd_dvd_right x n), ← Nat.div_mul_right_comm (Nat.gcd_dvd_left x n)]
theorem cutF_zero {n : Nat} (hn : 0 < n) : cutF 0 n = (0, 1) := by
  unfold cutF
  rw [Nat.gcd_zero_left, Nat.zero_div, Nat.div_self hn]
theorem cutF_one (x : Nat) : cutF x 1 = (x, 1) := by
  unfold cutF
  rw [Nat.gcd_one_right, Nat.div_one, Nat.div_one]
theorem cutF_self {n : Nat} (hn : 0 < n) : cutF n n = (1, 1) := by
  unfold cutF
  rw [Nat.gcd_self, Nat.div_self hn]
theorem cutF_plus (x y : Nat) {n : Nat} (hn : 0 < n) : cutF ((cutF x n).1 * (cutF y n).2 + (cutF y n).1 * (cutF x n).2) ((cutF x n).2 * (cutF y n).2) = cutF (x + y) n := by
  have h1 := cutF_rel x n
  have h2 := cutF_rel y n
  refine cutF_eq (Nat.mul_pos (cutF_pos hn) (cutF_pos hn)) hn ?_
  generalize (cutF x n).1 = a at *
  generalize (cutF x n).2 = b at *
  generalize (cutF y n).1 = c at *
  generalize (cutF y n).2 = d at *
  rw [Nat.add_mul, Nat.add_mul, show a * d * n = (a * n) * d from by ac_rfl, show c * b * n = (c * n) * b from by ac_rfl, h1, h2]
  ac_rfl
theorem cutF_times (w x : Nat) {n : Nat} (hn : 0 < n) : cutF (w * (cutF x n).1) (cutF x n).2 = cutF (w * x) n := by
  have h1 := cutF_rel x n
  refine cutF_eq (cutF_pos hn) hn ?_
  rw [Nat.mul_assoc, h1, Nat.mul_assoc]
theorem cutF_part (w x : Nat) {n k : Nat} (hn : 0 < n) (hk : 0 < k) : cutF ((cutF x n).1 * w) ((cutF x n).2 * k) = cutF (w * x) (n * k) := by
  have h1 := cutF_rel x n
  refine cutF_eq (Nat.mul_pos (cutF_pos hn) hk) (Nat.mul_pos hn hk) ?_
  generalize (cutF x n).1 = a at *
  generalize (cutF x n).2 = b at *
  rw [show a * w * (n * k) = (a * n) * w * k from by ac_rfl, h1]
  ac_rfl
theorem cutF_over (x : Nat) {n k : Nat} (hn : 0 < n) (hk : 0 < k) : cutF (cutF x n).1 ((cutF x n).2 * k) = cutF x (n * k) := by
  have h := cutF_part 1 x hn hk
  rwa [Nat.mul_one, Nat.one_mul] at h
/-- Which fraction is less. -/
def lessF (f g : Nat × Nat) : Bool := decide (f.1 * g.2 < g.1 * f.2)
theorem cutF_num {x n : Nat} (hn : 0 < n) : (cutF x n).1 = 0 ↔ x = 0 := by
  constructor
  · intro h
    have := cutF_rel x n
    rw [h, Nat.zero_mul] at this
    rcases Nat.mul_eq_zero.1 this.symm with h | h
    · exact h
    · have := cutF_pos (x := x) hn; omega
  · rintro rfl; rw [cutF_zero hn]
theorem lessF_zero {x n : Nat} (hn : 0 < n) : lessF (0, 1) (cutF x n) = !decide (x = 0) := by
  unfold lessF
  have := cutF_num (x := x) hn
  by_cases hx : x = 0
  · rw [this.2 hx]; simp [hx]
  · have h : (cutF x n).1 ≠ 0 := fun h => hx (this.1 h)
    simp only [Nat.zero_mul, Nat.mul_one, hx, decide_false, Bool.not_false, decide_eq_true_eq]
    omega
/-! ### placements -/
/-- The placements on a board: cell and tile. -/
def plc (S : List Int) : List (Nat × Nat) := (emptyL S).flatMap fun k => [(k, 1), (k, 2)]
def wtP (p : Nat × Nat) : Nat := if p.2 = 2 then 1 else 9
def setP (S : List Int) (p : Nat × Nat) : List Int := S.set p.1 (p.2 : Int)
theorem plc_len (S : List Int) : (plc S).length = 2 * (emptyL S).length := by
  unfold plc
  induction emptyL S with
  | nil => rfl
  | cons a l ih => rw [List.flatMap_cons, List.length_append, ih]; simp; omega
theorem mem_plc {S : List Int} {p : Nat × Nat} : p ∈ plc S ↔ (p.1 < 16 ∧ atL S p.1 = 0) ∧ (p.2 = 1 ∨ p.2 = 2) := by
  obtain ⟨k, t⟩ := p
  simp only [plc, List.mem_flatMap, mem_emptyL, List.mem_cons, List.not_mem_nil, or_false, Prod.mk.injEq]
  constructor
  · rintro ⟨j, h, ⟨rfl, h2⟩ | ⟨rfl, h2⟩⟩
    · exact ⟨h, .inl h2⟩
    · exact ⟨h, .inr h2⟩
  · rintro ⟨h, h2⟩
    refine ⟨k, h, ?_⟩
    rcases h2 with h2 | h2 <;> simp [h2]
/-- The weighted sum of what is told of the boards with the placements of a list. -/
def sumW (f : List Int → Nat) (S : List Int) (l : List (Nat × Nat)) : Nat := (l.map fun p => wtP p * f (setP S p)).sum
def sumT (l : List (Nat × Nat)) : Nat := (l.map wtP).sum
theorem sumW_snoc (f : List Int → Nat) (S : List Int) (l : List (Nat × Nat)) (p : Nat × Nat) : sumW f S (l ++ [p]) = sumW f S l + wtP p * f (setP S p) := by simp [sumW]
theorem sumT_snoc (l : List (Nat × Nat)) (p : Nat × Nat) : sumT (l ++ [p]) = sumT l + wtP p := by simp [sumT]
theorem sumT_plc (S : List Int) : sumT (plc S) = 10 * (emptyL S).length := by
  unfold plc sumT
  induction emptyL S with
  | nil => rfl
  | cons a l ih => rw [List.flatMap_cons, List.map_append, List.sum_append, ih]; simp [wtP]; omega
theorem wtP_bd (p : Nat × Nat) : 1 ≤ wtP p ∧ wtP p ≤ 9 := by unfold wtP; split <;> omega
theorem sumT_take_le (l : List (Nat × Nat)) (k : Nat) : sumT (l.take k) ≤ sumT l := by
  have h : sumT l = sumT (l.take k) + sumT (l.drop k) := by
    unfold sumT
    rw [← List.sum_append, ← List.map_append, List.take_append_drop]
  omega
theorem sumW_le {f : List Int → Nat} {S : List Int} {D : Nat} : ∀ l : List (Nat × Nat), (∀ p ∈ l, f (setP S p) ≤ D) → sumW f S l ≤ D * sumT l
  | [], _ => by simp [sumW, sumT]
  | p :: l, h => by
    have h1 := sumW_le l fun q hq => h q (List.mem_cons_of_mem _ hq)
    have h2 := Nat.mul_le_mul_left (wtP p) (h p List.mem_cons_self)
    have e1 : sumW f S (p :: l) = wtP p * f (setP S p) + sumW f S l := by simp [sumW]
    have e2 : D * sumT (p :: l) = wtP p * D + D * sumT l := by simp [sumT, Nat.mul_add, Nat.mul_comm]
    omega
theorem sumW_bd {f : List Int → Nat} {S : List Int} {D : Nat} (h : ∀ p ∈ plc S, f (setP S p) ≤ D) (k : Nat) : sumW f S ((plc S).take k) ≤ D * (10 * (emptyL S).length) := by
  have h1 := sumW_le ((plc S).take k) fun p hp => h p (List.mem_of_mem_take hp)
  have h2 := sumT_take_le (plc S) k
  rw [sumT_plc] at h2
  exact Nat.le_trans h1 (Nat.mul_le_mul_left _ h2)
theorem sumT_bd (S : List Int) (k : Nat) : sumT ((plc S).take k) ≤ 160 := by
  have h2 := sumT_take_le (plc S) k
  have h3 := emptyL_len S
  rw [sumT_plc] at h2
  omega
theorem setP_len {S : List Int} (hl : S.length = 16) (p : Nat × Nat) : (setP S p).length = 16 := by rw [setP, List.length_set, hl]
theorem setP_ok {S : List Int} (h : okL S = true) {p : Nat × Nat} (hp : p ∈ plc S) : okL (setP S p) = true := by
  have := (mem_plc.1 hp).2
  exact set_ok h _ (by omega)
/-- The mean of whole numbers. -/
def meanF (f : List Int → Nat) (S : List Int) : Nat × Nat := cutF (sumW f S (plc S)) (10 * (emptyL S).length)
theorem stepsL_plc {d : Nat} {b : List Int} (h : slideB 1 d b ≠ b) : stepsL d b = (plc (slideB 1 d b)).map fun p => ((d : Int), ((p.1 / 4 : Nat) : Int), ((p.1 % 4 : Nat) : Int), (p.2 : Int)) := by
  unfold stepsL plc
  rw [if_neg h]
  induction emptyL (slideB 1 d b) with
  | nil => rfl
  | cons a l ih => rw [List.flatMap_cons, List.flatMap_cons, List.map_append, ih]; rfl
/-! ### the room of a board -/
def pairsK (r : List Int) (k : Nat) : Nat := ((List.range k).filter fun j => decide (r.getD j 0 = r.getD (j + 1) 0) && inB (r.getD j 0) 1 16).length
theorem pairsK_succ (r : List Int) (k : Nat) : pairsK r (k + 1) = pairsK r k + if (decide (r.getD k 0 = r.getD (k + 1) 0) && inB (r.getD k 0) 1 16) = true then 1 else 0 := by
  unfold pairsK
  rw [List.range_succ, List.filter_append, List.length_append, List.filter_cons]
  split <;> simp
theorem pairsK_le (r : List Int) (k : Nat) : pairsK r k ≤ k := by
  have := List.length_filter_le (fun j => decide (r.getD j 0 = r.getD (j + 1) 0) && inB (r.getD j 0) 1 16) (List.range k)
  rw [List.length_range] at this
  exact this
def pairsR (r : List Int) : Nat := pairsK r 3
theorem pairsR_le (r : List Int) : pairsR r ≤ 3 := pairsK_le r 3
/-- The pairs of the first lines of a direction. -/
def pairsI (b : List Int) (d : Nat) : Nat → Nat
  | 0 => 0
  | i + 1 => pairsI b d i + pairsR (lineL d i b)
theorem pairsI_le (b : List Int) (d : Nat) : ∀ i, pairsI b d i ≤ 3 * i
  | 0 => by simp [pairsI]
  | i + 1 => by have := pairsI_le b d i; have := pairsR_le (lineL d i b); simp only [pairsI]; omega
def pairsO (b : List Int) : Nat → Nat
  | 0 => 0
  | d + 1 => pairsO b d + pairsI b d 4
theorem pairsO_le (b : List Int) : ∀ d, pairsO b d ≤ 12 * d
  | 0 => by simp [pairsO]
  | d + 1 => by have := pairsO_le b d; have := pairsI_le b d 4; simp only [pairsO]; omega
def pairsB (b : List Int) : Nat := pairsO b 2
/-- The pairs of the first rows and columns. -/
def pairsZ (b : List Int) : Nat → Nat
  | 0 => 0
  | i + 1 => pairsZ b i + (pairsR (lineL 0 i b) + pairsR (lineL 1 i b))
theorem pairsZ_eq (b : List Int) : ∀ i, pairsZ b i = pairsI b 0 i + pairsI b 1 i
  | 0 => rfl
  | i + 1 => by simp only [pairsZ, pairsI, pairsZ_eq b i]; omega
theorem pairsB_eq (b : List Int) : pairsB b = pairsZ b 4 := by rw [pairsZ_eq]; simp [pairsB, pairsO]
theorem pairsZ_le (b : List Int) (i : Nat) : pairsZ b i ≤ 6 * i := by
  have h0 := pairsI_le b 0 i
  have h1 := pairsI_le b 1 i
  rw [pairsZ_eq]
  omega
theorem pairsB_le (b : List Int) : pairsB b ≤ 24 := pairsO_le b 2
def roomB (b : List Int) : Nat := pairsB b + (emptyL b).length
theorem roomB_le (b : List Int) : roomB b ≤ 40 := by
  have h1 := pairsB_le b
  have h2 := emptyL_len b
  unfold roomB
  omega
/-! ### the best direction -/
def bstI (g : Int → Nat × Nat) (s : Int × (Nat × Nat)) (d : Int) : Int × (Nat × Nat) := if s.1 < 0 ∨ lessF s.2 (g d) = true then (d, g d) else s
def bstR (g : Int → Nat × Nat) (s : Int × (Nat × Nat)) (d : Int) : Int × (Nat × Nat) := if s.2.2 = 0 ∨ lessF s.2 (g d) = true then (d, g d) else s
def bstS (g : Int → Nat × Nat) (m : Nat × Nat) (d : Int) : Nat × Nat := if lessF m (g d) = true then g d else m
/-- The best of a list, by the program: a direction (-1 if there is none) and what it has. -/
def bestI (g : Int → Nat × Nat) (l : List Int) : Int × (Nat × Nat) := l.foldl (bstI g) (-1, (0, 1))
def bestR (g : Int → Nat × Nat) (l : List Int) : Int × (Nat × Nat) := l.foldl (bstR g) (0, (0, 0))
def bestS (g : Int → Nat × Nat) (l : List Int) : Nat × Nat := l.foldl (bstS g) (0, 1)
theorem fold_take {α β : Type} (f : β → α → β) (s : β) {l : List α} {k : Nat} (h : k < l.length) : (l.take (k + 1)).foldl f s = f ((l.take k).foldl f s) l[k] := by
  rw [List.take_succ_eq_append_getElem h, List.foldl_append]; rfl
/-- Fractions in lowest terms with some denominator. -/
def IsF (g : Int → Nat × Nat) (l : List Int) : Prop := ∀ d ∈ l, 0 ≤ d ∧ ∃ x n, 0 < n ∧ g d = cutF x n
theorem IsF.tail {g : Int → Nat × Nat} {d : Int} {l : List Int} (h : IsF g (d :: l)) : IsF g l := fun x hx => h x (List.mem_cons_of_mem _ hx)
theorem fold_IS {g : Int → Nat × Nat} : ∀ (l : List Int) (d : Int) (m : Nat × Nat), 0 ≤ d → IsF g l → (l.foldl (bstI g) (d, m)).2 = l.foldl (bstS g) m ∧ 0 ≤ (l.foldl (bstI g) (d, m)).1
  | [], d, m, hd, _ => ⟨rfl, hd⟩
  | x :: l, d, m, hd, h => by
    have hx := h x List.mem_cons_self
    simp only [List.foldl_cons, bstI, bstS]
    by_cases hq : lessF m (g x) = true
    · rw [if_pos (.inr hq), if_pos hq]; exact fold_IS l x (g x) hx.1 h.tail
    · rw [if_neg (by intro hh; rcases hh with hh | hh; (exact absurd hh (by omega)); exact hq hh), if_neg hq]; exact fold_IS l d m hd h.tail
theorem fold_IR {g : Int → Nat × Nat} : ∀ (l : List Int) (d : Int) (m : Nat × Nat), 0 ≤ d → m.2 ≠ 0 → IsF g l → l.foldl (bstI g) (d, m) = l.foldl (bstR g) (d, m)
  | [], d, m, hd, _, _ => rfl
  | x :: l, d, m, hd, hm, h => by
    obtain ⟨hx, a, n, hn, he⟩ := h x List.mem_cons_self
    have hp : (g x).2 ≠ 0 := by rw [he]; have := cutF_pos (x := a) hn; omega
    simp only [List.foldl_cons, bstI, bstR]
    by_cases hq : lessF m (g x) = true
    · rw [if_pos (.inr hq), if_pos (.inr hq)]; exact fold_IR l x (g x) hx hp h.tail
    · rw [if_neg (by intro hh; rcases hh with hh | hh; (exact absurd hh (by omega)); exact hq hh), if_neg (by intro hh; rcases hh with hh | hh; exact hm hh; exact hq hh)]; exact fold_IR l d m hd hm h.tail
theorem bestI_S {g : Int → Nat × Nat} {l : List Int} (h : IsF g l) : (bestI g l).2 = bestS g l := by
  unfold bestI bestS
  cases l with
  | nil => rfl
  | cons x l =>
    obtain ⟨hx, a, n, hn, he⟩ := h x List.mem_cons_self
    simp only [List.foldl_cons, bstI, bstS]
    rw [if_pos (.inl (by decide))]
    have hz : lessF (0, 1) (g x) = !decide (a = 0) := by rw [he, lessF_zero hn]
    by_cases ha : a = 0
    · rw [hz]
      simp only [ha, decide_true, Bool.not_true, Bool.false_eq_true, if_false]
      have : g x = (0, 1) := by rw [he, ha, cutF_zero hn]
      rw [this]
      exact (fold_IS l x _ hx h.tail).1
    · rw [hz]
      simp only [ha, decide_false, Bool.not_false, if_true]
      exact (fold_IS l x _ hx h.tail).1
theorem bestI_R {g : Int → Nat × Nat} {l : List Int} (h : IsF g l) (hne : l ≠ []) : bestI g l = bestR g l ∧ 0 ≤ (bestI g l).1 := by
  unfold bestI bestR
  cases l with
  | nil => exact absurd rfl hne
  | cons x l =>
    obtain ⟨hx, a, n, hn, he⟩ := h x List.mem_cons_self
    simp only [List.foldl_cons]
    rw [show bstI g (-1, (0, 1)) x = (x, g x) from by simp [bstI], show bstR g (0, (0, 0)) x = (x, g x) from by simp [bstR]]
    exact ⟨fold_IR l x _ hx (by rw [he]; have := cutF_pos (x := a) hn; omega) h.tail, (fold_IS l x _ hx h.tail).2⟩
/-- What the best has, is of one in the list, or is 0. -/
theorem bestS_of {g : Int → Nat × Nat} : ∀ (l : List Int) (m : Nat × Nat), l.foldl (bstS g) m = m ∨ ∃ d ∈ l, l.foldl (bstS g) m = g d
  | [], m => .inl rfl
  | x :: l, m => by
    simp only [List.foldl_cons, bstS]
    split
    · rcases bestS_of l (g x) with h | ⟨d, hd, h⟩
      · exact .inr ⟨x, List.mem_cons_self, h⟩
      · exact .inr ⟨d, List.mem_cons_of_mem _ hd, h⟩
    · rcases bestS_of l m with h | ⟨d, hd, h⟩
      · exact .inl h
      · exact .inr ⟨d, List.mem_cons_of_mem _ hd, h⟩
end Go.Proofs.Ytelnajpjanmliaa
