/-
  What is read out of the bytes of a log: the reference's way of decoding a line and the program's are one. Plain Lean, no program in sight.
-/
import Derived.Test.YtjmolkamaeonmaaDoorEnc
import Derived.Test.YtjmolkamaeonmaaDoorSplit
import Derived.Lib.IndexBytes
import Derived.Lib.IndexMore
set_option linter.unusedVariables false
set_option linter.unusedSimpArgs false
namespace Go.Proofs.YtjmolkamaeonmaaDoor
open Go.RowKit Slm
/-- What stands ahead of the first c, and behind it. -/
def bef (c : UInt8) : List UInt8 → List UInt8
  | [] => []
  | x :: l => if x = c then [] else x :: bef c l
def aft (c : UInt8) : List UInt8 → List UInt8
  | [] => []
  | x :: l => if x = c then l else aft c l
theorem bef_none {c : UInt8} : ∀ {l : List UInt8}, c ∉ l → bef c l = l
  | [], _ => rfl
  | x :: l, h => by
    rw [List.mem_cons, not_or] at h
    rw [bef, if_neg (fun e => h.1 e.symm), bef_none h.2]
theorem aft_none {c : UInt8} : ∀ {l : List UInt8}, c ∉ l → aft c l = []
  | [], _ => rfl
  | x :: l, h => by
    rw [List.mem_cons, not_or] at h
    rw [aft, if_neg (fun e => h.1 e.symm), aft_none h.2]
theorem bef_at {c : UInt8} (b : List UInt8) : ∀ {a : List UInt8}, c ∉ a → bef c (a ++ c :: b) = a
  | [], _ => by simp [bef]
  | x :: a, h => by
    rw [List.mem_cons, not_or] at h
    rw [List.cons_append, bef, if_neg (fun e => h.1 e.symm), bef_at b h.2]
theorem aft_at {c : UInt8} (b : List UInt8) : ∀ {a : List UInt8}, c ∉ a → aft c (a ++ c :: b) = b
  | [], _ => by simp [aft]
  | x :: a, h => by
    rw [List.mem_cons, not_or] at h
    rw [List.cons_append, aft, if_neg (fun e => h.1 e.symm), aft_at b h.2]
theorem mem_parts {c : UInt8} : ∀ {l : List UInt8}, c ∈ l → ∃ a b, l = a ++ c :: b ∧ c ∉ a
  | x :: l, h => by
    by_cases hx : x = c
    · exact ⟨[], l, by rw [hx]; rfl, by simp⟩
    · obtain ⟨a, b, rfl, ha⟩ := mem_parts ((List.mem_cons.1 h).resolve_left fun e => hx e.symm)
      exact ⟨x :: a, b, rfl, by rw [List.mem_cons, not_or]; exact ⟨fun e => hx e.symm, ha⟩⟩
theorem bef_len (c : UInt8) (l : List UInt8) : (bef c l).length ≤ l.length := by
  by_cases h : c ∈ l
  · obtain ⟨a, b, rfl, ha⟩ := mem_parts h
    rw [bef_at b ha]; simp
  · rw [bef_none h]; exact Nat.le_refl _
theorem aft_len (c : UInt8) (l : List UInt8) : (aft c l).length ≤ l.length := by
  by_cases h : c ∈ l
  · obtain ⟨a, b, rfl, ha⟩ := mem_parts h
    rw [aft_at b ha]; simp; omega
  · rw [aft_none h]; simp
theorem bef_lt {c : UInt8} {l : List UInt8} (h : c ∈ l) : (bef c l).length < l.length := by
  obtain ⟨a, b, rfl, ha⟩ := mem_parts h
  rw [bef_at b ha]; simp
theorem bef_lt_iff {c : UInt8} {l : List UInt8} : (bef c l).length = l.length ↔ c ∉ l := by
  constructor
  · intro h hm; have := bef_lt hm; omega
  · intro h; rw [bef_none h]
theorem drop_bef {c : UInt8} {l : List UInt8} (h : c ∈ l) : l.drop ((bef c l).length + 1) = aft c l := by
  obtain ⟨a, b, rfl, ha⟩ := mem_parts h
  rw [bef_at b ha, aft_at b ha, ← List.drop_drop, List.drop_left, List.drop_succ_cons, List.drop_zero]
theorem bef_mem_parts {c : UInt8} {l : List UInt8} (h : c ∈ l) : l = bef c l ++ c :: aft c l := by
  obtain ⟨a, b, rfl, ha⟩ := mem_parts h
  rw [bef_at b ha, aft_at b ha]
theorem splitL_head (c : UInt8) (l : List UInt8) : ∃ r, splitL c l = bef c l :: r ∧ (r = [] ↔ c ∉ l) := by
  by_cases h : c ∈ l
  · obtain ⟨a, b, rfl, ha⟩ := mem_parts h
    refine ⟨splitL c b, by rw [splitL_at b ha, bef_at b ha], ?_⟩
    obtain ⟨p, r, hp⟩ := splitL_ne c b
    simp [hp]
  · exact ⟨[], by rw [splitL_none h, bef_none h], by simp [h]⟩
theorem indexByte_none {c : UInt8} {l : List UInt8} (h : c ∉ l) : Lib.indexByte l c = -1 := by
  have h1 := Lib.indexByte_ge l c
  have h2 : ¬ 0 ≤ Lib.indexByte l c := fun h3 => h ((index_mem l c).1 h3)
  omega
theorem indexByte_at {c : UInt8} (b : List UInt8) : ∀ {a : List UInt8}, c ∉ a → Lib.indexByte (a ++ c :: b) c = a.length
  | [], _ => by simp [Lib.indexByte]
  | x :: a, h => by
    rw [List.mem_cons, not_or] at h
    have h1 : (x == c) = false := by simpa using fun e => h.1 e.symm
    rw [List.cons_append, Lib.indexByte, h1, indexByte_at b h.2]
    have h2 : ((a.length : Int) == -1) = false := by simp
    rw [h2]
    simp
theorem cut_one (l : List UInt8) (c : UInt8) : Lib.cut l [c] = (bef c l, aft c l, decide (c ∈ l)) := by
  unfold Lib.cut
  rw [Lib.index_one]
  by_cases h : c ∈ l
  · obtain ⟨a, b, rfl, ha⟩ := mem_parts h
    rw [indexByte_at b ha, if_pos (by omega), bef_at b ha, aft_at b ha]
    simp [← List.drop_drop]
  · rw [indexByte_none h, if_neg (by omega), bef_none h, aft_none h]
    simp [h]
/-- The record of a line as the program reads it, and whether the line is its encoding. -/
def recOf (line : List UInt8) : List UInt8 × List UInt8 := (bef 64 (aft 32 (bef 35 line)), aft 64 (aft 32 (bef 35 line)))
def okLine (n : Nat) (line : List UInt8) : Bool := recB (recOf line).1 (recOf line).2 && decide (lineL n (recOf line).1 (recOf line).2 = line ++ [10])
theorem recOf_line {n : Nat} {c r line : List UInt8} (h : recB c r = true) (hl : lineL n c r = line ++ [10]) : recOf line = (c, r) := by
  have e : sealL (bodyL n c r) = line := List.append_inj_left' hl rfl
  obtain ⟨_, _, _, h4, _, _⟩ := recB_facts h
  have hb : bef 35 line = bodyL n c r := by rw [← e, sealL, bef_at _ (body_no35 h)]
  have ha : aft 32 (bodyL n c r) = c ++ 64 :: r := by rw [bodyL, aft_at _ (dig_no 32 (by decide))]
  rw [recOf, hb, ha, bef_at r h4, aft_at r h4]
theorem okLine_of {n : Nat} {c r line : List UInt8} (h : recB c r = true) (hl : lineL n c r = line ++ [10]) : okLine n line = true := by
  rw [okLine, recOf_line h hl, h, hl]; simp
theorem okLine_facts {n : Nat} {line : List UInt8} (h : okLine n line = true) : recB (recOf line).1 (recOf line).2 = true ∧ lineL n (recOf line).1 (recOf line).2 = line ++ [10] := by
  simpa [okLine] using h
/-- The reference's way. -/
def aheadL (n : Nat) : List UInt8 := Lib.decDigits n ++ [32]
def restS (n : Nat) (line : List UInt8) : List UInt8 := (bef 35 line).drop (aheadL n).length
def fitS (n : Nat) (line : List UInt8) : Bool := !decide ((bef 35 line).length < (aheadL n).length) && decide ((bef 35 line).take (aheadL n).length = aheadL n)
def askS (n : Nat) (line : List UInt8) : List UInt8 := bef 64 (restS n line)
def repS (n : Nat) (line : List UInt8) : List UInt8 := (restS n line).drop ((askS n line).length + 1)
def okS (n : Nat) (line : List UInt8) : Bool := fitS n line && !decide ((askS n line).length = (restS n line).length) && (recB (askS n line) (repS n line) && decide (lineL n (askS n line) (repS n line) = line ++ [10]))
theorem okS_eq (n : Nat) (line : List UInt8) : okS n line = okLine n line := by
  cases ho : okLine n line
  · cases hs : okS n line
    · rfl
    · simp only [okS, Bool.and_eq_true, decide_eq_true_eq] at hs
      exact absurd (okLine_of hs.2.1 hs.2.2) (by rw [ho]; simp)
  · obtain ⟨h, hl⟩ := okLine_facts ho
    generalize (recOf line).1 = c at *
    generalize (recOf line).2 = r at *
    have e : sealL (bodyL n c r) = line := List.append_inj_left' hl rfl
    obtain ⟨_, _, _, h4, _, _⟩ := recB_facts h
    have hb : bef 35 line = bodyL n c r := by rw [← e, sealL, bef_at _ (body_no35 h)]
    have hbd : bodyL n c r = aheadL n ++ (c ++ 64 :: r) := by simp [bodyL, aheadL]
    have hr : restS n line = c ++ 64 :: r := by rw [restS, hb, hbd, List.drop_left]
    have ha : askS n line = c := by rw [askS, hr, bef_at r h4]
    have hp : repS n line = r := by rw [repS, ha, hr, ← List.drop_drop, List.drop_left]; rfl
    have hf : fitS n line = true := by rw [fitS, hb, hbd, List.take_left]; simp
    rw [okS, hf, ha, hp, hr, h, hl]
    simp
theorem okS_rec {n : Nat} {line : List UInt8} (h : okLine n line = true) : askS n line = (recOf line).1 ∧ repS n line = (recOf line).2 := by
  have hs := h
  rw [← okS_eq] at hs
  simp only [okS, Bool.and_eq_true, decide_eq_true_eq] at hs
  rw [recOf_line hs.2.1 hs.2.2]
  exact ⟨rfl, rfl⟩
/-- The records at the start of a text, from number n on, f of them at most, and how many bytes they take. -/
def readL : Nat → Nat → List UInt8 → List (List UInt8 × List UInt8) × Nat
  | 0, _, _ => ([], 0)
  | f + 1, n, l => if decide (10 ∈ l) && okLine n (bef 10 l) then (recOf (bef 10 l) :: (readL f (n + 1) (aft 10 l)).1, (bef 10 l).length + 1 + (readL f (n + 1) (aft 10 l)).2) else ([], 0)
theorem readL_yes {f n : Nat} {l : List UInt8} (h : (10 : UInt8) ∈ l) (ho : okLine n (bef 10 l) = true) : readL (f + 1) n l = (recOf (bef 10 l) :: (readL f (n + 1) (aft 10 l)).1, (bef 10 l).length + 1 + (readL f (n + 1) (aft 10 l)).2) := by
  rw [readL, if_pos (by simp [h, ho])]
theorem readL_no {f n : Nat} {l : List UInt8} (h : (decide ((10 : UInt8) ∈ l) && okLine n (bef 10 l)) = false) : readL (f + 1) n l = ([], 0) := by
  rw [readL, if_neg (by rw [h]; simp)]
theorem readL_le : ∀ (f n : Nat) (l : List UInt8), (readL f n l).2 ≤ l.length ∧ (readL f n l).1.length ≤ f
  | 0, _, _ => by simp [readL]
  | f + 1, n, l => by
    cases h : (decide ((10 : UInt8) ∈ l) && okLine n (bef 10 l))
    · rw [readL_no h]; simp
    · simp only [Bool.and_eq_true, decide_eq_true_eq] at h
      rw [readL_yes h.1 h.2]
      have h1 := readL_le f (n + 1) (aft 10 l)
      have h2 := congrArg List.length (bef_mem_parts h.1)
      rw [List.length_append, List.length_cons] at h2
      simp only [List.length_cons]
      omega
end Go.Proofs.YtjmolkamaeonmaaDoor
