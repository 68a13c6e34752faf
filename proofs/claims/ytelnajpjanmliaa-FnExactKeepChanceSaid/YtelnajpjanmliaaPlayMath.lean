/-
  Plain mathematics of the play by a seed. No program in sight.
-/
import Derived.Test.YtelnajpjanmliaaSetMath
import Derived.Test.YtelnajpjanmliaaSteps
set_option linter.unusedVariables false
set_option linter.unusedSimpArgs false
namespace Go.Proofs.Ytelnajpjanmliaa
open Go.RowKit Slm
theorem indS_full {S : List Int} (hl : S.length = 16) (he : emptyL S = []) : indS S = 16 := by
  have h : ∀ k, k < 16 → atL S k ≠ 0 := fun k hk h0 => by
    have : k ∈ emptyL S := mem_emptyL.2 ⟨hk, h0⟩
    rw [he] at this
    cases this
  obtain ⟨a0, a1, a2, a3, b0, b1, b2, b3, c0, c1, c2, c3, d0, d1, d2, d3, rfl⟩ := list16 hl
  have h0 := h 0 (by omega)
  have h1 := h 1 (by omega)
  have h2 := h 2 (by omega)
  have h3 := h 3 (by omega)
  have h4 := h 4 (by omega)
  have h5 := h 5 (by omega)
  have h6 := h 6 (by omega)
  have h7 := h 7 (by omega)
  have h8 := h 8 (by omega)
  have h9 := h 9 (by omega)
  have h10 := h 10 (by omega)
  have h11 := h 11 (by omega)
  have h12 := h 12 (by omega)
  have h13 := h 13 (by omega)
  have h14 := h 14 (by omega)
  have h15 := h 15 (by omega)
  clear h he hl
  simp [atL] at h0 h1 h2 h3 h4 h5 h6 h7 h8 h9 h10 h11 h12 h13 h14 h15
  simp [indS, ind, *]
theorem flush_full {r : List Int} (hl : r.length = 4) (h : indS r = 4) : flushR r := by
  have h1 : (tilesL r).length = r.length := by rw [tiles_ind, h, hl]
  have h2 : tilesL r = r := by
    unfold tilesL at *
    exact List.filter_eq_self.2 (List.length_filter_eq_length_iff.1 h1)
  unfold flushR
  rw [h2, hl]
  simp
/-- A slide that changes something leaves an empty cell. -/
theorem slide_room {d : Nat} (hd : d ≤ 3) {b : List Int} (hl : b.length = 16) (h : okL b = true) (hne : slideB 1 d b ≠ b) : (emptyL (slideB 1 d b)).length ≠ 0 := by
  intro he
  have hf := indS_full (by rw [slideB_len, hl]) (List.length_eq_zero_iff.1 he)
  have h1 := slide_count 1 d hd hl h
  have h2 := mergedB_bd 1 d b
  have h3 := indS_le b
  have h4 := board_ind hl hd
  have h0 : mergedB 1 d b = 0 := by omega
  refine hne (slide_still 1 hd hl (fun i hi => flush_full (lineL_len d i b) ?_) h0)
  have l0 := indS_le (lineL d 0 b)
  have l1 := indS_le (lineL d 1 b)
  have l2 := indS_le (lineL d 2 b)
  have l3 := indS_le (lineL d 3 b)
  rw [lineL_len] at l0 l1 l2 l3
  rcases side4 hi with rfl | rfl | rfl | rfl <;> omega
/-- Whether a direction is a move. -/
def mvB (b : List Int) (d : Int) : Bool := !decide (slideB 1 d.toNat b = b)
abbrev Ply := List Stp × List Int × Nat
/-- One round of a play: the first direction of the order that is a move, the new tile by the seed. -/
def roundP (o : List Int) (p : Ply) : Ply :=
  if ixZ (mvB p.2.1) o < 0 then p
  else
    let d := o.getD (ixZ (mvB p.2.1) o).toNat 0
    let S := slideB 1 d.toNat p.2.1
    let c := seedCell S p.2.2
    (p.1 ++ [(d, ((c / 4 : Nat) : Int), ((c % 4 : Nat) : Int), seedT p.2.2)], S.set c (seedT p.2.2), (25173 * p.2.2 + 13849) % 65536)
def playK (b o : List Int) (s : Nat) : Nat → Ply
  | 0 => ([], b, s)
  | k + 1 => roundP o (playK b o s k)
theorem playK_succ (b o : List Int) (s k : Nat) : playK b o s (k + 1) = roundP o (playK b o s k) := rfl
theorem play_stuck {b o : List Int} {s k : Nat} (h : ixZ (mvB (playK b o s k).2.1) o < 0) : ∀ j, playK b o s (k + j) = playK b o s k
  | 0 => rfl
  | j + 1 => by
    rw [← Nat.add_assoc, playK_succ, play_stuck h j, roundP, if_pos h]
theorem ixZ_lt {α : Type} {p : α → Bool} {xs : List α} (h : ¬ ixZ p xs < 0) : ∃ k : Nat, k < xs.length ∧ ixZ p xs = k := by
  rcases ixZ_cases p xs with ⟨h1, -⟩ | ⟨k, hk, h1, -⟩
  · rw [h1] at h; omega
  · exact ⟨k, hk, h1⟩
theorem seedCell_lt {S : List Int} (n : Nat) (he : (emptyL S).length ≠ 0) : seedCell S n < 16 ∧ atL S (seedCell S n) = 0 := by
  unfold seedCell
  rw [List.getD_eq_getElem?_getD, List.getElem?_eq_getElem (Nat.mod_lt _ (by omega))]
  exact mem_emptyL.1 (List.getElem_mem _)
/-- The facts of a round that goes. -/
structure Goes (b o : List Int) (s : Nat) (i : Nat) (d c : Nat) (S : List Int) : Prop where
  lt : i < o.length
  ix : ixZ (mvB b) o = i
  dir : o.getD i 0 = d
  d3 : d ≤ 3
  eS : slideB 1 d b = S
  ne : S ≠ b
  room : (emptyL S).length ≠ 0
  eC : seedCell S s = c
  c16 : c < 16
  zero : atL S c = 0
theorem goes {b o : List Int} {s : Nat} (hl : b.length = 16) (hok : okL b = true) (ho : ∀ x ∈ o, 0 ≤ x ∧ x ≤ 3) (h : ¬ ixZ (mvB b) o < 0) : ∃ i d c S, Goes b o s i d c S := by
  rcases ixZ_cases (mvB b) o with ⟨h1, -⟩ | ⟨i, hi, h1, hp, -⟩
  · rw [h1] at h; omega
  · have hx := ho _ (List.getElem_mem hi)
    have hd : (o[i]).toNat ≤ 3 := by omega
    have hne : slideB 1 (o[i]).toNat b ≠ b := by simpa [mvB] using hp
    have hr := slide_room hd hl hok hne
    have hc := seedCell_lt s hr
    exact ⟨i, (o[i]).toNat, _, _, hi, h1, by simp [hi]; omega, hd, rfl, hne, hr, rfl, hc.1, hc.2⟩
theorem round_goes {o : List Int} {p : Ply} {i d c : Nat} {S : List Int} (h : Goes p.2.1 o p.2.2 i d c S) : roundP o p = (p.1 ++ [((d : Int), ((c / 4 : Nat) : Int), ((c % 4 : Nat) : Int), seedT p.2.2)], S.set c (seedT p.2.2), (25173 * p.2.2 + 13849) % 65536) := by
  rw [roundP, if_neg (by rw [h.ix]; omega)]
  simp only [h.ix, Int.toNat_natCast, h.dir, h.eS, h.eC]
theorem seedT_bd (n : Nat) : 1 ≤ seedT n ∧ seedT n ≤ 2 := by unfold seedT; split <;> omega
theorem play_facts {b o : List Int} {s : Nat} (hl : b.length = 16) (hok : okL b = true) (hs : s ≤ 65535) (ho : ∀ x ∈ o, 0 ≤ x ∧ x ≤ 3) : ∀ k, (playK b o s k).2.1.length = 16 ∧ okL (playK b o s k).2.1 = true ∧ (playK b o s k).2.2 ≤ 65535 ∧ (playK b o s k).1.length ≤ k
  | 0 => ⟨hl, hok, hs, by simp [playK]⟩
  | k + 1 => by
    obtain ⟨h1, h2, h3, h4⟩ := play_facts hl hok hs ho k
    rw [playK_succ]
    by_cases hx : ixZ (mvB (playK b o s k).2.1) o < 0
    · rw [roundP, if_pos hx]; exact ⟨h1, h2, h3, by omega⟩
    · obtain ⟨i, d, c, S, g⟩ := goes (s := (playK b o s k).2.2) h1 h2 ho hx
      rw [round_goes g]
      have ht := seedT_bd (playK b o s k).2.2
      refine ⟨by rw [List.length_set, ← g.eS, slideB_len, h1], set_ok (by rw [← g.eS]; exact slideB_ok h2 1 _) _ (by omega), by simp only []; omega, by simp; omega⟩
/-- In a play that has gone k rounds: there are k steps. -/
theorem play_len {b o : List Int} {s : Nat} : ∀ k, (∀ j, j < k → ¬ ixZ (mvB (playK b o s j).2.1) o < 0) → (playK b o s k).1.length = k
  | 0, _ => rfl
  | k + 1, h => by
    have hk := play_len k fun j hj => h j (by omega)
    rw [playK_succ, roundP, if_neg (h k (by omega))]
    simp [hk]
end Go.Proofs.Ytelnajpjanmliaa
