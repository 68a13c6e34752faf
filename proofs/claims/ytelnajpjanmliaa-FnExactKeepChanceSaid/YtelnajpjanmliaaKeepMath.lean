/-
  Plain mathematics of the chance to have moves. No program in sight.
-/
import Derived.Test.YtelnajpjanmliaaFrac
import Derived.Test.YtelnajpjanmliaaPlay1
set_option linter.unusedVariables false
set_option linter.unusedSimpArgs false
namespace Go.Proofs.Ytelnajpjanmliaa
open Go.RowKit Slm
theorem mem_moves {b : List Int} (hl : b.length = 16) (hok : okL b = true) {x : Int} (h : x ∈ movesK 1 b 4) : ∃ d : Nat, x = d ∧ d ≤ 3 ∧ slideB 1 d b ≠ b ∧ 0 < (emptyL (slideB 1 d b)).length := by
  obtain ⟨h1, h2, h3⟩ := (mem_movesK b x 4).1 h
  obtain ⟨d, rfl⟩ := Int.eq_ofNat_of_zero_le h1
  have hne : slideB 1 d b ≠ b := by simpa [mvB] using h3
  have hr := slide_room (d := d) (by omega) hl hok hne
  exact ⟨d, rfl, by omega, hne, by omega⟩
/-- The mean of fractions with one denominator, behind a move. -/
def ofF (D : Nat) (f : List Int → Nat) (b : List Int) (d : Int) : Nat × Nat := cutF (sumW f (slideB 1 d.toNat b) (plc (slideB 1 d.toNat b))) (D * (10 * (emptyL (slideB 1 d.toNat b)).length))
theorem ofF_isF {D : Nat} (hD : 0 < D) (f : List Int → Nat) {b : List Int} (hl : b.length = 16) (hok : okL b = true) : IsF (ofF D f b) (movesK 1 b 4) := by
  intro x hx
  obtain ⟨d, rfl, h1, h2, h3⟩ := mem_moves hl hok hx
  refine ⟨by omega, _, _, ?_, rfl⟩
  rw [Int.toNat_natCast]
  exact Nat.mul_pos hD (by omega)
def den2 : Nat := 7207200
def kx1 (b : List Int) : Nat := if movesK 1 b 4 = [] then 0 else 1
def kp2 (b : List Int) : Nat × Nat := bestS (ofF 1 kx1 b) (movesK 1 b 4)
def kx2 (b : List Int) : Nat := (kp2 b).1 * (den2 / (kp2 b).2)
def kp3 (b : List Int) : Nat × Nat := bestS (ofF den2 kx2 b) (movesK 1 b 4)
/-- The chance to have n moves. -/
def kpN (n : Nat) (b : List Int) : Nat × Nat := if n = 0 then (1, 1) else if n = 1 then (kx1 b, 1) else if n = 2 then kp2 b else kp3 b
def kxN (n : Nat) (b : List Int) : Nat := if n = 0 then 1 else if n = 1 then kx1 b else kx2 b
def dnN (n : Nat) : Nat := if n ≤ 1 then 1 else den2
theorem kx1_le (b : List Int) : kx1 b ≤ 1 := by unfold kx1; split <;> omega
theorem ten_den2 : ∀ e, e < 17 → 0 < e → den2 % (10 * e) = 0 := by decide
theorem cutF_lele {x n : Nat} (h : x ≤ n) : (cutF x n).1 ≤ (cutF x n).2 := Nat.div_le_div_right h
theorem kp2_facts {b : List Int} (hl : b.length = 16) (hok : okL b = true) : kp2 b = cutF (kx2 b) den2 ∧ kx2 b ≤ den2 := by
  have hcase : kp2 b = (0, 1) ∨ ∃ x m, 0 < m ∧ den2 % m = 0 ∧ x ≤ m ∧ kp2 b = cutF x m := by
    rcases bestS_of (g := ofF 1 kx1 b) (movesK 1 b 4) (0, 1) with h | ⟨d, hd, h⟩
    · exact .inl h
    · obtain ⟨d', rfl, h1, h2, h3⟩ := mem_moves hl hok hd
      have hE := emptyL_len (slideB 1 d' b)
      have hb := sumW_bd (f := kx1) (S := slideB 1 d' b) (D := 1) (fun p _ => kx1_le _) (plc (slideB 1 d' b)).length
      rw [List.take_length] at hb
      refine .inr ⟨_, 1 * (10 * (emptyL (slideB 1 d' b)).length), by omega, ?_, hb, ?_⟩
      · rw [Nat.one_mul]; exact ten_den2 _ (by omega) h3
      · unfold kp2 bestS
        rw [h, ofF, Int.toNat_natCast]
  unfold kx2
  rcases hcase with h | ⟨x, m, hm, hd, hx, h⟩
  · rw [h]
    exact ⟨by rw [Nat.zero_mul, cutF_zero (by decide)], by simp⟩
  · rw [h]
    have hp := cutF_pos (x := x) hm
    have hdv : (cutF x m).2 ∣ den2 := Nat.dvd_trans (Nat.div_dvd_of_dvd (Nat.gcd_dvd_right x m)) (Nat.dvd_of_mod_eq_zero hd)
    obtain ⟨k, hk⟩ := hdv
    have hk0 : 0 < k := by
      rcases Nat.eq_zero_or_pos k with h0 | h0
      · rw [h0, Nat.mul_zero] at hk; exact absurd hk (by decide)
      · exact h0
    have hq : den2 / (cutF x m).2 = k := by rw [hk, Nat.mul_div_cancel_left _ hp]
    have ho := cutF_over x hm (k := 1) (by decide)
    rw [Nat.mul_one, Nat.mul_one] at ho
    rw [hq]
    refine ⟨?_, ?_⟩
    · rw [hk, cutF_mul _ _ hk0, ho]
    · rw [hk]; exact Nat.mul_le_mul_right k (cutF_lele hx)
theorem dnN_pos (n : Nat) : 0 < dnN n := by unfold dnN; split <;> decide
theorem dnN_le (n : Nat) : dnN n ≤ 7207200 := by unfold dnN; split <;> decide
theorem kxN_le (n : Nat) {b : List Int} (hl : b.length = 16) (hok : okL b = true) : kxN n b ≤ dnN n := by
  unfold kxN dnN
  have h1 := kx1_le b
  have h2 := (kp2_facts hl hok).2
  split
  · subst n; simp
  · split
    · subst n; simpa using h1
    · rw [if_neg (by omega)]; exact h2
theorem kpN_cut {n : Nat} (hn : n ≤ 2) {b : List Int} (hl : b.length = 16) (hok : okL b = true) : kpN n b = cutF (kxN n b) (dnN n) := by
  have h : n = 0 ∨ n = 1 ∨ n = 2 := by omega
  rcases h with rfl | rfl | rfl
  · simp [kpN, kxN, dnN, cutF_one]
  · simp [kpN, kxN, dnN, cutF_one]
  · exact (kp2_facts hl hok).1
/-- Behind a move there are some places. -/
theorem kxN_1 : kxN 1 = kx1 := by funext b; simp [kxN]
theorem kxN_2 : kxN 2 = kx2 := by funext b; simp [kxN]
theorem kpN_succ (n : Nat) (b : List Int) (h2 : 2 ≤ n) (h3 : n ≤ 3) : kpN n b = bestS (ofF (dnN (n - 1)) (kxN (n - 1)) b) (movesK 1 b 4) := by
  have h : n = 2 ∨ n = 3 := by omega
  rcases h with rfl | rfl
  · have e : kpN 2 b = kp2 b := by simp [kpN]
    have d : dnN (2 - 1) = 1 := by simp [dnN]
    rw [e, kp2, d, show (2 : Nat) - 1 = 1 from rfl, kxN_1]
  · have e : kpN 3 b = kp3 b := by simp [kpN]
    have d : dnN (3 - 1) = den2 := by simp [dnN]
    rw [e, kp3, d, show (3 : Nat) - 1 = 2 from rfl, kxN_2]
end Go.Proofs.Ytelnajpjanmliaa
