/-
  The plain mathematics of rows and boards that slide: no program in sight.
-/
import Derived.Test.YtlhchjjegaflhaaMath
namespace Slm
/-- The tiles of a row. -/
def tilesL (r : List Int) : List Int := r.filter fun x => x != 0
/-- One more tile comes to those that have come out, the last one first: each with whether it has come out of a merger. -/
def slT (rule : Int) (acc : List (Int × Bool)) (t : Int) : List (Int × Bool) := match acc with
  | (s, false) :: r => if 0 < mergeZ rule s t then (mergeZ rule s t, true) :: r else (t, false) :: (s, false) :: r
  | acc => (t, false) :: acc
def accT (rule : Int) (l : List Int) : List (Int × Bool) := l.foldl (slT rule) []
/-- A row out of its tiles. -/
def outC (acc : List (Int × Bool)) : List Int := acc.reverse.map (·.1) ++ List.replicate (4 - acc.length) 0
def markC (acc : List (Int × Bool)) : List Bool := acc.reverse.map (·.2) ++ List.replicate (4 - acc.length) false
def scoreC : List (Int × Bool) → Int
  | [] => 0
  | p :: r => scoreC r + if p.2 then worthZ 1 p.1 else 0
def countC : List (Int × Bool) → Int
  | [] => 0
  | p :: r => countC r + if p.2 then 1 else 0
def rowTo (rule : Int) (r : List Int) : List Int := outC (accT rule (tilesL r))
def rowMarks (r : List Int) : List Bool := markC (accT 1 (tilesL r))
def rowMerged (rule : Int) (r : List Int) : Int := countC (accT rule (tilesL r))
def rowScore (r : List Int) : Int := scoreC (accT 1 (tilesL r))
theorem accT_snoc (rule : Int) (l : List Int) (t : Int) : accT rule (l ++ [t]) = slT rule (accT rule l) t := by simp [accT]
theorem accT_take (rule : Int) (l : List Int) (k : Nat) (h : k < l.length) : accT rule (l.take (k + 1)) = slT rule (accT rule (l.take k)) l[k] := by
  rw [List.take_succ_eq_append_getElem h, accT_snoc]
theorem slT_len (rule : Int) (acc : List (Int × Bool)) (t : Int) : (slT rule acc t).length ≤ acc.length + 1 := by
  unfold slT; split
  · split <;> simp
  · simp
theorem foldT_len (rule : Int) : ∀ (l : List Int) (acc : List (Int × Bool)), (l.foldl (slT rule) acc).length ≤ acc.length + l.length
  | [], acc => by simp
  | t :: l, acc => by
    have := foldT_len rule l (slT rule acc t)
    have := slT_len rule acc t
    simp only [List.foldl_cons, List.length_cons]; omega
theorem accT_len (rule : Int) (l : List Int) : (accT rule l).length ≤ l.length := by simpa [accT] using foldT_len rule l []
theorem tilesL_len (r : List Int) : (tilesL r).length ≤ r.length := List.length_filter_le _ _
theorem outC_len {acc : List (Int × Bool)} (h : acc.length ≤ 4) : (outC acc).length = 4 := by simp [outC]; omega
theorem markC_len {acc : List (Int × Bool)} (h : acc.length ≤ 4) : (markC acc).length = 4 := by simp [markC]; omega
theorem rowTo_len {rule : Int} {r : List Int} (h : r.length = 4) : (rowTo rule r).length = 4 := by
  refine outC_len ?_
  have := accT_len rule (tilesL r)
  have := tilesL_len r
  omega
theorem rowMarks_len {r : List Int} (h : r.length = 4) : (rowMarks r).length = 4 := by
  refine markC_len ?_
  have := accT_len 1 (tilesL r)
  have := tilesL_len r
  omega
theorem outC_push {acc : List (Int × Bool)} {t : Int} {b : Bool} (h : acc.length < 4) : (outC acc).set acc.length t = outC ((t, b) :: acc) := by
  have e : 4 - acc.length = (4 - (acc.length + 1)) + 1 := by omega
  simp only [outC, List.reverse_cons, List.map_append, List.map_cons, List.map_nil, List.length_cons]
  rw [e, List.replicate_succ]
  have hl : acc.length = (acc.reverse.map (·.1)).length := by simp
  conv => lhs; rw [hl]
  rw [List.set_append_right _ _ (Nat.le_refl _)]
  simp
theorem outC_top {acc : List (Int × Bool)} {s u : Int} {b c : Bool} : (outC ((s, b) :: acc)).set acc.length u = outC ((u, c) :: acc) := by
  simp only [outC, List.reverse_cons, List.map_append, List.map_cons, List.map_nil, List.length_cons]
  have hl : acc.length = (acc.reverse.map (·.1)).length := by simp
  conv => lhs; rw [hl]
  rw [List.append_assoc, List.set_append_right _ _ (Nat.le_refl _)]
  simp
theorem outC_get {acc : List (Int × Bool)} {s : Int} {b : Bool} : (outC ((s, b) :: acc))[acc.length]? = some s := by
  simp only [outC, List.reverse_cons, List.map_append, List.map_cons, List.map_nil]
  have hl : acc.length = (acc.reverse.map (·.1)).length := by simp
  conv => lhs; rw [hl]
  rw [List.append_assoc, List.getElem?_append_right (Nat.le_refl _)]
  simp
theorem markC_push {acc : List (Int × Bool)} {t : Int} (h : acc.length < 4) : markC acc = markC ((t, false) :: acc) := by
  have e : 4 - acc.length = (4 - (acc.length + 1)) + 1 := by omega
  simp only [markC, List.reverse_cons, List.map_append, List.map_cons, List.map_nil, List.length_cons]
  rw [e, List.replicate_succ]
  simp
theorem markC_top {acc : List (Int × Bool)} {s u : Int} {b c : Bool} : (markC ((s, b) :: acc)).set acc.length c = markC ((u, c) :: acc) := by
  simp only [markC, List.reverse_cons, List.map_append, List.map_cons, List.map_nil, List.length_cons]
  have hl : acc.length = (acc.reverse.map (·.2)).length := by simp
  conv => lhs; rw [hl]
  rw [List.append_assoc, List.set_append_right _ _ (Nat.le_refl _)]
  simp
theorem markC_get {acc : List (Int × Bool)} {s : Int} {b : Bool} : (markC ((s, b) :: acc))[acc.length]? = some b := by
  simp only [markC, List.reverse_cons, List.map_append, List.map_cons, List.map_nil]
  have hl : acc.length = (acc.reverse.map (·.2)).length := by simp
  conv => lhs; rw [hl]
  rw [List.append_assoc, List.getElem?_append_right (Nat.le_refl _)]
  simp
theorem mergeZ_bd (rule s t : Int) (hs : 0 ≤ s) (ht : 0 ≤ t) : 0 ≤ mergeZ rule s t ∧ mergeZ rule s t ≤ 17 := by
  unfold mergeZ; grind
theorem slT_ok (rule : Int) (acc : List (Int × Bool)) (t : Int) (ht : 1 ≤ t ∧ t ≤ 17) (h : ∀ p ∈ acc, 1 ≤ p.1 ∧ p.1 ≤ 17) : ∀ p ∈ slT rule acc t, 1 ≤ p.1 ∧ p.1 ≤ 17 := by
  unfold slT
  split
  · rename_i s r
    have hs := h (s, false) (by simp)
    split
    · intro p hp
      rcases List.mem_cons.1 hp with rfl | hp
      · have := mergeZ_bd rule s t (by omega) (by omega); exact ⟨by simp only; omega, by simp only; omega⟩
      · exact h p (by simp [hp])
    · intro p hp
      rcases List.mem_cons.1 hp with rfl | hp
      · exact ht
      · exact h p hp
  · intro p hp
    rcases List.mem_cons.1 hp with rfl | hp
    · exact ht
    · exact h p hp
theorem foldT_ok (rule : Int) : ∀ (l : List Int) (acc : List (Int × Bool)), (∀ x ∈ l, 1 ≤ x ∧ x ≤ 17) → (∀ p ∈ acc, 1 ≤ p.1 ∧ p.1 ≤ 17) → ∀ p ∈ l.foldl (slT rule) acc, 1 ≤ p.1 ∧ p.1 ≤ 17
  | [], acc, _, h => h
  | t :: l, acc, hl, h => foldT_ok rule l _ (fun x hx => hl x (by simp [hx])) (slT_ok rule acc t (hl t (by simp)) h)
theorem accT_ok {rule : Int} {l : List Int} (h : ∀ x ∈ l, 1 ≤ x ∧ x ≤ 17) : ∀ p ∈ accT rule l, 1 ≤ p.1 ∧ p.1 ≤ 17 := foldT_ok rule l [] h (by simp)
theorem worth1_bd {t : Int} (h : 1 ≤ t ∧ t ≤ 17) : 0 ≤ worthZ 1 t ∧ worthZ 1 t ≤ 131072 := by
  have : t = 1 ∨ t = 2 ∨ t = 3 ∨ t = 4 ∨ t = 5 ∨ t = 6 ∨ t = 7 ∨ t = 8 ∨ t = 9 ∨ t = 10 ∨ t = 11 ∨ t = 12 ∨ t = 13 ∨ t = 14 ∨ t = 15 ∨ t = 16 ∨ t = 17 := by omega
  rcases this with rfl | rfl | rfl | rfl | rfl | rfl | rfl | rfl | rfl | rfl | rfl | rfl | rfl | rfl | rfl | rfl | rfl <;> decide
theorem scoreC_bd : ∀ (acc : List (Int × Bool)), (∀ p ∈ acc, 1 ≤ p.1 ∧ p.1 ≤ 17) → 0 ≤ scoreC acc ∧ scoreC acc ≤ 131072 * acc.length
  | [], _ => by simp [scoreC]
  | p :: r, h => by
    have h1 := scoreC_bd r (fun q hq => h q (by simp [hq]))
    have h2 := worth1_bd (h p (by simp))
    simp only [scoreC, List.length_cons]
    split <;> constructor <;> (try omega)
theorem countC_bd : ∀ (acc : List (Int × Bool)), 0 ≤ countC acc ∧ countC acc ≤ acc.length
  | [] => by simp [countC]
  | p :: r => by
    have h1 := countC_bd r
    simp only [countC, List.length_cons]
    split <;> constructor <;> (try omega)
theorem okL_iff {l : List Int} : okL l = true ↔ ∀ x ∈ l, 0 ≤ x ∧ x ≤ 17 := by simp [okL, inB]
theorem tilesL_ok {r : List Int} (h : okL r = true) : ∀ x ∈ tilesL r, 1 ≤ x ∧ x ≤ 17 := by
  intro x hx
  simp only [tilesL, List.mem_filter, bne_iff_ne, ne_eq] at hx
  have := okL_iff.1 h x hx.1
  omega
theorem rowTo_ok {rule : Int} {r : List Int} (h : okL r = true) : okL (rowTo rule r) = true := by
  rw [okL_iff]
  intro x hx
  simp only [rowTo, outC, List.mem_append, List.mem_map, List.mem_reverse, List.mem_replicate] at hx
  rcases hx with ⟨p, hp, rfl⟩ | ⟨_, rfl⟩
  · have := accT_ok (tilesL_ok h) p hp; omega
  · omega
theorem rowScore_bd {r : List Int} (h : okL r = true) (hl : r.length = 4) : 0 ≤ rowScore r ∧ rowScore r ≤ 524288 := by
  have h1 := scoreC_bd (accT 1 (tilesL r)) (accT_ok (tilesL_ok h))
  have := accT_len 1 (tilesL r)
  have := tilesL_len r
  unfold rowScore; omega
theorem rowMerged_bd (rule : Int) {r : List Int} (hl : r.length = 4) : 0 ≤ rowMerged rule r ∧ rowMerged rule r ≤ 4 := by
  have h1 := countC_bd (accT rule (tilesL r))
  have := accT_len rule (tilesL r)
  have := tilesL_len r
  unfold rowMerged; omega
/-! lines of boards -/
def atL (b : List Int) (k : Nat) : Int := b.getD k 0
/-- The place of a cell of a line. -/
def lpos (d i k : Nat) : Nat := if d = 0 then 4 * i + k else if d = 1 then 4 * k + i else if d = 2 then 4 * i + (3 - k) else 4 * (3 - k) + i
def lineL (d i : Nat) (b : List Int) : List Int := [atL b (lpos d i 0), atL b (lpos d i 1), atL b (lpos d i 2), atL b (lpos d i 3)]
def putL (d i : Nat) (r b : List Int) : List Int := (((b.set (lpos d i 0) (atL r 0)).set (lpos d i 1) (atL r 1)).set (lpos d i 2) (atL r 2)).set (lpos d i 3) (atL r 3)
/-- A board whose first n lines have slid. -/
def slideN (rule : Int) (d : Nat) (b : List Int) : Nat → List Int
  | 0 => b
  | n + 1 => putL d n (rowTo rule (lineL d n b)) (slideN rule d b n)
def scoreN (d : Nat) (b : List Int) : Nat → Int
  | 0 => 0
  | n + 1 => scoreN d b n + rowScore (lineL d n b)
def mergedN (rule : Int) (d : Nat) (b : List Int) : Nat → Int
  | 0 => 0
  | n + 1 => mergedN rule d b n + rowMerged rule (lineL d n b)
def slideB (rule : Int) (d : Nat) (b : List Int) : List Int := slideN rule d b 4
def scoreB (d : Nat) (b : List Int) : Int := scoreN d b 4
def mergedB (rule : Int) (d : Nat) (b : List Int) : Int := mergedN rule d b 4
@[simp] theorem putL_len (d i : Nat) (r b : List Int) : (putL d i r b).length = b.length := by simp [putL]
@[simp] theorem slideN_len (rule : Int) (d : Nat) (b : List Int) : ∀ n, (slideN rule d b n).length = b.length
  | 0 => rfl
  | n + 1 => by simp [slideN, slideN_len rule d b n]
@[simp] theorem slideB_len (rule : Int) (d : Nat) (b : List Int) : (slideB rule d b).length = b.length := by simp [slideB]
@[simp] theorem lineL_len (d i : Nat) (b : List Int) : (lineL d i b).length = 4 := rfl
theorem atL_ok {b : List Int} (h : okL b = true) (k : Nat) : 0 ≤ atL b k ∧ atL b k ≤ 17 := by
  unfold atL
  rw [List.getD_eq_getElem?_getD]
  cases hq : b[k]? with
  | none => simp
  | some x => exact okL_iff.1 h x (List.mem_of_getElem? hq)
theorem lineL_ok {b : List Int} (h : okL b = true) (d i : Nat) : okL (lineL d i b) = true := by
  rw [okL_iff]; intro x hx
  simp only [lineL, List.mem_cons, List.not_mem_nil, or_false] at hx
  rcases hx with rfl | rfl | rfl | rfl <;> exact atL_ok h _
theorem set_ok {b : List Int} (h : okL b = true) (k : Nat) {x : Int} (hx : 0 ≤ x ∧ x ≤ 17) : okL (b.set k x) = true := by
  rw [okL_iff] at *
  intro y hy
  rcases List.mem_or_eq_of_mem_set hy with hy | rfl
  · exact h y hy
  · exact hx
theorem putL_ok {b r : List Int} (h : okL b = true) (hr : okL r = true) (d i : Nat) : okL (putL d i r b) = true :=
  set_ok (set_ok (set_ok (set_ok h _ (atL_ok hr _)) _ (atL_ok hr _)) _ (atL_ok hr _)) _ (atL_ok hr _)
theorem slideN_ok {b : List Int} (h : okL b = true) (rule : Int) (d : Nat) : ∀ n, okL (slideN rule d b n) = true
  | 0 => h
  | n + 1 => putL_ok (slideN_ok h rule d n) (rowTo_ok (lineL_ok h d n)) d n
theorem slideB_ok {b : List Int} (h : okL b = true) (rule : Int) (d : Nat) : okL (slideB rule d b) = true := slideN_ok h rule d 4
theorem mergedN_bd (rule : Int) (d : Nat) (b : List Int) : ∀ n : Nat, 0 ≤ mergedN rule d b n ∧ mergedN rule d b n ≤ 4 * n
  | 0 => by simp [mergedN]
  | n + 1 => by
    have h1 := mergedN_bd rule d b n
    have h2 := rowMerged_bd rule (lineL_len d n b)
    simp only [mergedN]; omega
theorem scoreN_bd {b : List Int} (h : okL b = true) (d : Nat) : ∀ n : Nat, 0 ≤ scoreN d b n ∧ scoreN d b n ≤ 524288 * n
  | 0 => by simp [scoreN]
  | n + 1 => by
    have h1 := scoreN_bd h d n
    have h2 := rowScore_bd (lineL_ok h d n) (lineL_len d n b)
    simp only [scoreN]; omega
/-- How many of some marks hold. -/
def countB : List Bool → Int
  | [] => 0
  | b :: l => (if b then 1 else 0) + countB l
theorem countB_append (l m : List Bool) : countB (l ++ m) = countB l + countB m := by
  induction l with
  | nil => simp [countB]
  | cons b l ih => simp only [List.cons_append, countB, ih]; omega
theorem countB_false (n : Nat) : countB (List.replicate n false) = 0 := by
  induction n with
  | zero => rfl
  | succ n ih => simp [List.replicate_succ, countB, ih]
theorem countB_marks : ∀ (acc : List (Int × Bool)), countB (acc.reverse.map (·.2)) = countC acc
  | [] => rfl
  | p :: r => by
    simp only [List.reverse_cons, List.map_append, List.map_cons, List.map_nil, countB_append, countB_marks r, countC, countB]; omega
theorem rowMarks_count (r : List Int) : countB (rowMarks r) = rowMerged 1 r := by
  unfold rowMarks rowMerged markC
  rw [countB_append, countB_false, countB_marks]; omega
theorem countB_take (l : List Bool) (k : Nat) (h : k < l.length) : countB (l.take (k + 1)) = countB (l.take k) + if l[k] then 1 else 0 := by
  rw [List.take_succ_eq_append_getElem h, countB_append]
  simp [countB]
theorem countB_bd : ∀ (l : List Bool), 0 ≤ countB l ∧ countB l ≤ l.length
  | [] => by simp [countB]
  | b :: l => by have := countB_bd l; simp only [countB, List.length_cons]; split <;> omega
end Slm
