/-
  Walks of the boards of a replay.
-/
import Derived.Test.YtelnajpjanmliaaSteps
set_option linter.unusedVariables false
set_option linter.unusedSimpArgs false
namespace Go.Proofs.Ytelnajpjanmliaa
open Go.RowKit Slm
theorem Sl.lit {w0 w : World} {σ : List Blk} {g len s : Nat} {e : TypeId} {xs : List Value} (hm : Mem w0 w (⟨g, xs, e⟩ :: σ)) (hx : xs.length = len * s) (hl : len ≤ maxLen) : Sl w0 w (.slice (some ⟨g, 0, none⟩) len len) e s xs σ :=
  ⟨g, [], len, len, rfl, by simpa using hm, ⟨Nat.le_refl _, hl, by simpa using hx⟩, hx⟩
def stpAt (S : List Stp) (k : Nat) : Stp := S.getD k (0, 0, 0, 0)
/-- The board behind k steps. -/
def bdK (b : List Int) (S : List Stp) : Nat → List Int
  | 0 => b
  | k + 1 => nextB (bdK b S k) (stpAt S k).1 (stpAt S k).2.1 (stpAt S k).2.2.1 (stpAt S k).2.2.2
def isK (b : List Int) (S : List Stp) (k : Nat) : Bool := stpB (bdK b S k) (stpAt S k).1 (stpAt S k).2.1 (stpAt S k).2.2.1 (stpAt S k).2.2.2
/-- Whether the first n are steps. -/
def okK (b : List Int) (S : List Stp) : Nat → Bool
  | 0 => true
  | k + 1 => okK b S k && isK b S k
def sumK2 (b : List Int) (S : List Stp) : Nat → Int
  | 0 => 0
  | k + 1 => sumK2 b S k + scoreB (stpAt S k).1.toNat (bdK b S k)
def bdsK (b : List Int) (S : List Stp) (n : Nat) : List (List Int) := (List.range (n + 1)).map (bdK b S)
/-- Whether a replay is valid. -/
def valR (b : List Int) (S : List Stp) : Bool := okL b && (decide (S.length ≤ 40) && okK b S S.length)
def bdsR (b : List Int) (S : List Stp) : List (List Int) := if valR b S = true then bdsK b S S.length else []
def sumR (b : List Int) (S : List Stp) : Int := if valR b S = true then sumK2 b S S.length else 0
theorem okK_mono {b : List Int} {S : List Stp} {n : Nat} : ∀ {k : Nat}, okK b S (n + k) = true → okK b S n = true
  | 0, h => h
  | k + 1, h => by
    rw [← Nat.add_assoc] at h
    simp only [okK, Bool.and_eq_true] at h
    exact okK_mono h.1
theorem okK_lt {b : List Int} {S : List Stp} {n k : Nat} (h : okK b S n = true) (hk : k ≤ n) : okK b S k = true := by
  obtain ⟨d, rfl⟩ : ∃ d, n = k + d := ⟨n - k, by omega⟩
  exact okK_mono h
theorem bdK_len {b : List Int} (hl : b.length = 16) (S : List Stp) : ∀ k, (bdK b S k).length = 16
  | 0 => hl
  | k + 1 => nextB_len (bdK_len hl S k) _ _ _ _
theorem bdK_ok {b : List Int} (h : okL b = true) (S : List Stp) : ∀ k, okK b S k = true → okL (bdK b S k) = true
  | 0, _ => h
  | k + 1, hk => by
    simp only [okK, Bool.and_eq_true] at hk
    exact nextB_ok (bdK_ok h S k hk.1) hk.2
theorem bdsK_succ (b : List Int) (S : List Stp) (n : Nat) : bdsK b S (n + 1) = bdsK b S n ++ [bdK b S (n + 1)] := by
  unfold bdsK
  rw [List.range_succ, List.map_append]
  rfl
theorem bdsK_len (b : List Int) (S : List Stp) (n : Nat) : (bdsK b S n).length = n + 1 := by simp [bdsK]
theorem bdsK_16 {b : List Int} (hl : b.length = 16) (S : List Stp) (n : Nat) : ∀ x ∈ bdsK b S n, x.length = 16 := by
  intro x hx
  obtain ⟨k, _, rfl⟩ := List.mem_map.1 hx
  exact bdK_len hl S k
theorem bdsK_get (b : List Int) (S : List Stp) (n k : Nat) (h : k ≤ n) : (bdsK b S n)[k]'(by rw [bdsK_len]; omega) = bdK b S k := by simp [bdsK]
theorem bdsK_row {b : List Int} (hl : b.length = 16) (S : List Stp) (n k : Nat) (h : k ≤ n) (more : List Value) : ((((bdsK b S n).flatten).map iv ++ more).drop (k * 16)).take 16 = (bdK b S k).map iv := by
  have h1 := fm_get (f := fun x : List Int => x) (l := bdsK b S n) (k := k) (by rw [bdsK_len]; omega) (bdsK_16 hl S n) more
  rw [bdsK_get b S n k h] at h1
  have e : (bdsK b S n).flatMap (fun x => x) = (bdsK b S n).flatten := by simp [List.flatMap_def]
  rw [e] at h1
  exact h1
theorem bdsK_flat {b : List Int} (hl : b.length = 16) (S : List Stp) (n : Nat) : ((bdsK b S n).flatten).length = (n + 1) * 16 := by
  have h1 := fm_len (f := fun x : List Int => x) (bdsK b S n) (bdsK_16 hl S n)
  have e : (bdsK b S n).flatMap (fun x => x) = (bdsK b S n).flatten := by simp [List.flatMap_def]
  rw [e, bdsK_len] at h1
  exact h1
theorem stpAt_get {S : List Stp} {k : Nat} (h : k < S.length) : stpAt S k = S[k] := by simp [stpAt, h]
theorem sumK2_bd {b : List Int} (h : okL b = true) (S : List Stp) : ∀ k, okK b S k = true → 0 ≤ sumK2 b S k ∧ sumK2 b S k ≤ 2097152 * k
  | 0, _ => by simp [sumK2]
  | k + 1, hk => by
    simp only [okK, Bool.and_eq_true] at hk
    have h1 := sumK2_bd h S k hk.1
    have h2 := scoreB_bd (bdK_ok h S k hk.1) (stpAt S k).1.toNat
    simp only [sumK2]
    omega
end Go.Proofs.Ytelnajpjanmliaa
