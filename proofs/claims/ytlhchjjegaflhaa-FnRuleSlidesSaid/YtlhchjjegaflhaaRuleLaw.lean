/-
  What the law on slides by a rule owes: a slide keeps the sum, a settled board stands still, the most mergers are the most. Plain Lean, no program in sight.
-/
import Derived.Test.YtlhchjjegaflhaaSum
import Derived.Test.YtlhchjjegaflhaaMost
import Derived.Test.YtlhchjjegaflhaaMoves
import Derived.Test.YtlhchjjegaflhaaSetMath
set_option linter.unusedVariables false
set_option linter.unusedSimpArgs false
namespace Go.Proofs.Ytlhchjjegaflhaa
open Go.RowKit Slm
/-- The worth of a cell. -/
def wz (rule t : Int) : Int := if 0 < t then worthZ rule t else 0
def sumW9 (f : Int → Int) (l : List Int) : Int := (l.map f).sum
theorem sumW9_app (f : Int → Int) (l m : List Int) : sumW9 f (l ++ m) = sumW9 f l + sumW9 f m := by simp [sumW9]
theorem sumW9_cons (f : Int → Int) (x : Int) (l : List Int) : sumW9 f (x :: l) = f x + sumW9 f l := by simp [sumW9]
theorem sumK_take (f : Int → Int) (b : List Int) : ∀ n : Nat, n ≤ b.length → sumK f b n = sumW9 (fun t => if 0 < t then f t else 0) (b.take n)
  | 0, _ => by simp [sumK, sumW9]
  | n + 1, h => by
    have ih := sumK_take f b n (by omega)
    have ha : atL b n = b[n]'(by omega) := by rw [atL, List.getD_eq_getElem?_getD, List.getElem?_eq_getElem (by omega)]; rfl
    rw [sumK, ih, List.take_succ_eq_append_getElem (by omega), sumW9_app, ha]
    simp [sumW9]
theorem sumK_16 (f : Int → Int) {b : List Int} (hl : b.length = 16) : sumK f b 16 = sumW9 (fun t => if 0 < t then f t else 0) b := by
  rw [sumK_take f b 16 (by omega), List.take_of_length_le (by omega)]
theorem board_sumW9 (f : Int → Int) {b : List Int} (hl : b.length = 16) {d : Nat} (hd : d ≤ 3) : sumW9 f b = sumW9 f (lineL d 0 b) + sumW9 f (lineL d 1 b) + sumW9 f (lineL d 2 b) + sumW9 f (lineL d 3 b) := by
  obtain ⟨a0, a1, a2, a3, b0, b1, b2, b3, c0, c1, c2, c3, d0, d1, d2, d3, rfl⟩ := board16 hl
  rcases side4 hd with rfl | rfl | rfl | rfl
  all_goals
    simp [sumW9, lineL, atL, lpos]
    omega
theorem merge_worth_all : ∀ r : Fin 4, ∀ s : Fin 17, ∀ t : Fin 17, 0 < mergeZ ((r.val : Int) + 1) ((s.val : Int) + 1) ((t.val : Int) + 1) → worthZ ((r.val : Int) + 1) (mergeZ ((r.val : Int) + 1) ((s.val : Int) + 1) ((t.val : Int) + 1)) = worthZ ((r.val : Int) + 1) ((s.val : Int) + 1) + worthZ ((r.val : Int) + 1) ((t.val : Int) + 1) := by decide +kernel
/-- Two tiles that merge have together the worth of what they become. -/
theorem merge_worth {rule s t : Int} (hr : 1 ≤ rule ∧ rule ≤ 4) (hs : 1 ≤ s ∧ s ≤ 17) (ht : 1 ≤ t ∧ t ≤ 17) (h : 0 < mergeZ rule s t) : worthZ rule (mergeZ rule s t) = worthZ rule s + worthZ rule t := by
  have h1 := merge_worth_all ⟨(rule - 1).toNat, by omega⟩ ⟨(s - 1).toNat, by omega⟩ ⟨(t - 1).toNat, by omega⟩
  simp only at h1
  rw [show (((rule - 1).toNat : Nat) : Int) + 1 = rule from by omega, show (((s - 1).toNat : Nat) : Int) + 1 = s from by omega, show (((t - 1).toNat : Nat) : Int) + 1 = t from by omega] at h1
  exact h1 h
theorem wz_pos {rule t : Int} (h : 1 ≤ t) : wz rule t = worthZ rule t := by rw [wz, if_pos (by omega)]
theorem slT_worth {rule : Int} (hr : 1 ≤ rule ∧ rule ≤ 4) {acc : List (Int × Bool)} {t : Int} (ht : 1 ≤ t ∧ t ≤ 17) (ha : ∀ p ∈ acc, 1 ≤ p.1 ∧ p.1 ≤ 17) : sumW9 (wz rule) ((slT rule acc t).map (·.1)) = sumW9 (wz rule) (acc.map (·.1)) + wz rule t := by
  unfold slT
  split
  · rename_i s rest
    have hs := ha (s, false) (by simp)
    simp only at hs
    split
    · rename_i hm
      have hp : 0 < mergeZ rule s t := by have := mergeZ_bd rule s t (by omega) (by omega); omega
      have := merge_worth hr hs ht hp
      simp only [List.map_cons, sumW9_cons]
      rw [wz_pos (by omega), wz_pos (by omega), wz_pos (by omega), this]
      omega
    · simp only [List.map_cons, sumW9_cons]; omega
  · simp only [List.map_cons, sumW9_cons]; omega
theorem foldT_worth {rule : Int} (hr : 1 ≤ rule ∧ rule ≤ 4) : ∀ (l : List Int) (acc : List (Int × Bool)), (∀ x ∈ l, 1 ≤ x ∧ x ≤ 17) → (∀ p ∈ acc, 1 ≤ p.1 ∧ p.1 ≤ 17) → sumW9 (wz rule) ((l.foldl (slT rule) acc).map (·.1)) = sumW9 (wz rule) (acc.map (·.1)) + sumW9 (wz rule) l
  | [], acc, _, _ => by simp [sumW9]
  | t :: l, acc, hx, ha => by
    have h0 := slT_ok rule acc t (hx t (by simp)) ha
    have h1 := foldT_worth hr l (slT rule acc t) (fun x h => hx x (by simp [h])) h0
    have h2 := slT_worth hr (hx t (by simp)) ha
    rw [List.foldl_cons, h1, h2, sumW9_cons]
    omega
theorem sumW9_rev (f : Int → Int) (l : List Int) : sumW9 f l.reverse = sumW9 f l := by
  induction l with
  | nil => rfl
  | cons x l ih => rw [List.reverse_cons, sumW9_app, ih, sumW9_cons, sumW9_cons]; simp [sumW9]; omega
theorem sumW9_zero (rule : Int) (n : Nat) : sumW9 (wz rule) (List.replicate n 0) = 0 := by
  induction n with
  | zero => rfl
  | succ n ih => rw [List.replicate_succ, sumW9_cons, ih]; rfl
theorem tiles_worth (rule : Int) : ∀ {l : List Int}, okL l = true → sumW9 (wz rule) (tilesL l) = sumW9 (wz rule) l
  | [], _ => rfl
  | x :: l, h => by
    have hx := okL_iff.1 h
    have h0 := tiles_worth rule (l := l) (okL_iff.2 fun y hy => hx y (by simp [hy]))
    by_cases h1 : x = 0
    · subst h1
      have : tilesL (0 :: l) = tilesL l := by simp [tilesL]
      rw [this, h0, sumW9_cons]
      simp [wz]
    · have : tilesL (x :: l) = x :: tilesL l := by simp [tilesL, h1]
      rw [this, sumW9_cons, sumW9_cons, h0]
theorem row_worth {rule : Int} (hr : 1 ≤ rule ∧ rule ≤ 4) {r : List Int} (h : okL r = true) : sumW9 (wz rule) (rowTo rule r) = sumW9 (wz rule) r := by
  have h1 := foldT_worth hr (tilesL r) [] (tilesL_ok h) (by simp)
  unfold rowTo outC accT
  rw [sumW9_app, sumW9_zero, List.map_reverse, sumW9_rev, h1, tiles_worth rule h]
  simp [sumW9]
/-- A slide by a rule keeps the sum by it. -/
theorem slide_sum {rule : Int} (hr : 1 ≤ rule ∧ rule ≤ 4) {d : Nat} (hd : d ≤ 3) {b : List Int} (hl : b.length = 16) (h : okL b = true) : sumK (worthZ rule) (slideB rule d b) 16 = sumK (worthZ rule) b 16 := by
  rw [sumK_16 _ (by rw [slideB_len, hl]), sumK_16 _ hl]
  show sumW9 (wz rule) _ = sumW9 (wz rule) _
  rw [board_sumW9 (wz rule) (b := slideB rule d b) (by rw [slideB_len, hl]) hd, board_sumW9 (wz rule) hl hd]
  rw [slide_lines rule d hd hl 0 (by omega), slide_lines rule d hd hl 1 (by omega), slide_lines rule d hd hl 2 (by omega), slide_lines rule d hd hl 3 (by omega)]
  rw [row_worth hr (lineL_ok h d 0), row_worth hr (lineL_ok h d 1), row_worth hr (lineL_ok h d 2), row_worth hr (lineL_ok h d 3)]
/-- A settled board does not change any more. -/
theorem settle_fix {rule : Int} {d : Nat} (hd : d ≤ 3) : ∀ (f : Nat) (b : List Int) (n : Nat), b.length = 16 → okL b = true → muB d b < f → slideB rule d (settleF rule d f b n).1 = (settleF rule d f b n).1 ∧ n ≤ (settleF rule d f b n).2 ∧ ((settleF rule d f b n).2 = n ↔ slideB rule d b = b) ∧ okL (settleF rule d f b n).1 = true
  | 0, _, _, _, _, h => by omega
  | f + 1, b, n, hl, hok, h => by
    by_cases he : slideB rule d b = b
    · rw [settle_stop he]
      exact ⟨he, Nat.le_refl _, by simp [he], hok⟩
    · rw [settle_go he]
      have hm := mu_less rule hd hl hok he
      obtain ⟨h1, h2, h3, h4⟩ := settle_fix hd f (slideB rule d b) (n + 1) (by rw [slideB_len, hl]) (slideB_ok hok rule d) (by omega)
      exact ⟨h1, by omega, ⟨fun e => by omega, fun e => absurd e he⟩, h4⟩
/-- The most mergers. -/
theorem mostN_facts (b : List Int) (rule : Int) : ∀ n : Nat, 0 < n → (∀ i : Nat, i < n → mergedB rule i b ≤ (mostN b rule n).1) ∧ ∃ i : Nat, i < n ∧ (mostN b rule n).2 = i ∧ (mostN b rule n).1 = mergedB rule i b
  | 0, h => by omega
  | n + 1, _ => by
    have hb := mergedB_bd rule n b
    by_cases hn : n = 0
    · subst hn
      have e : mostN b rule 1 = (mergedB rule 0 b, ((0 : Nat) : Int)) := by
        rw [mostN, mostN, if_pos (by omega)]
      rw [e]
      refine ⟨fun i hi => ?_, 0, by omega, rfl, rfl⟩
      obtain rfl : i = 0 := by omega
      exact Int.le_refl _
    · obtain ⟨h1, i, hi, h2, h3⟩ := mostN_facts b rule n (by omega)
      rw [mostN]
      split
      · rename_i hlt
        refine ⟨fun j hj => ?_, n, by omega, rfl, rfl⟩
        by_cases hjn : j = n
        · subst hjn; exact Int.le_refl _
        · have := h1 j (by omega)
          simp only
          omega
      · rename_i hge
        refine ⟨fun j hj => ?_, i, by omega, h2, h3⟩
        by_cases hjn : j = n
        · subst hjn; omega
        · exact h1 j (by omega)
theorem mem_movesR (rule : Int) (b : List Int) (i : Nat) : ∀ n : Nat, (i : Int) ∈ movesK rule b n ↔ i < n ∧ slideB rule i b ≠ b
  | 0 => by simp [movesK]
  | n + 1 => by
    rw [movesK_succ, List.mem_append, mem_movesR rule b i n]
    by_cases h : slideB rule n b = b
    · rw [if_pos h]
      constructor
      · rintro (⟨h1, h2⟩ | h1)
        · exact ⟨by omega, h2⟩
        · cases h1
      · rintro ⟨h1, h2⟩
        by_cases hx : i = n
        · subst hx; exact absurd h h2
        · exact .inl ⟨by omega, h2⟩
    · rw [if_neg h, List.mem_singleton]
      constructor
      · rintro (⟨h1, h2⟩ | h1)
        · exact ⟨by omega, h2⟩
        · obtain rfl : i = n := by omega
          exact ⟨by omega, h⟩
      · rintro ⟨h1, h2⟩
        by_cases hx : i = n
        · exact .inr (by omega)
        · exact .inl ⟨by omega, h2⟩
end Go.Proofs.Ytlhchjjegaflhaa
