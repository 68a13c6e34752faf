/-
  What the laws on logs and crashes owe of the texts of logs: a record more, a prefix, a torn last byte. Plain Lean, no program in sight.
-/
import Derived.Test.YtjmolkamaeonmaaDoorLogR
import Derived.Test.YtjmolkamaeonmaaDoorCrash
set_option linter.unusedVariables false
set_option linter.unusedSimpArgs false
namespace Go.Proofs.YtjmolkamaeonmaaDoor
open Go.RowKit Slm
theorem bef_app {c : UInt8} {l : List UInt8} (x : List UInt8) (h : c ∈ l) : bef c (l ++ x) = bef c l := by
  obtain ⟨a, b, rfl, ha⟩ := mem_parts h
  rw [List.append_assoc, List.cons_append, bef_at _ ha, bef_at _ ha]
theorem aft_app {c : UInt8} {l : List UInt8} (x : List UInt8) (h : c ∈ l) : aft c (l ++ x) = aft c l ++ x := by
  obtain ⟨a, b, rfl, ha⟩ := mem_parts h
  rw [List.append_assoc, List.cons_append, aft_at _ ha, aft_at _ ha]
theorem bef_aft_len {c : UInt8} {l : List UInt8} (h : c ∈ l) : (bef c l).length + 1 + (aft c l).length = l.length := by
  have := congrArg List.length (bef_mem_parts h)
  rw [List.length_append, List.length_cons] at this
  omega
theorem body_no10 {k : Nat} {c r : List UInt8} (h : recB c r = true) : (10 : UInt8) ∉ bodyL k c r := by
  obtain ⟨_, _, _, _, h5, h6⟩ := recB_facts h
  simp only [bodyL, List.mem_append, List.mem_cons, not_or]
  exact ⟨dig_no 10 (by decide), by decide, ok_no10 h5, by decide, ok_no10 h6⟩
theorem seal_no10 {k : Nat} {c r : List UInt8} (h : recB c r = true) : (10 : UInt8) ∉ sealL (bodyL k c r) := by
  simp only [sealL, List.mem_append, List.mem_cons, not_or]
  exact ⟨body_no10 h, by decide, dig_no 10 (by decide)⟩
theorem ok_small {l : List UInt8} (h : l.all okByte = true) {x : UInt8} (hx : x ∈ l) : x.toNat ≤ 126 := by
  have := (okByte_iff x).1 (List.all_eq_true.1 h _ hx)
  omega
/-- The bytes of a line are small. -/
theorem line_small {k : Nat} {c r : List UInt8} (h : recB c r = true) {x : UInt8} (hx : x ∈ lineL k c r) : x.toNat ≤ 126 := by
  obtain ⟨_, _, _, _, h5, h6⟩ := recB_facts h
  simp only [lineL, sealL, bodyL, List.mem_append, List.mem_cons, List.not_mem_nil, or_false] at hx
  rcases hx with ((hx | rfl | hx | rfl | hx) | rfl | hx) | rfl
  · have := dig_mem hx; omega
  · decide
  · exact ok_small h5 hx
  · decide
  · exact ok_small h6 hx
  · decide
  · have := dig_mem hx; omega
  · decide
theorem readL_parts {f n : Nat} {l : List UInt8} (h0 : l ≠ []) (h : (readL (f + 1) n l).2 = l.length) : (10 : UInt8) ∈ l ∧ okLine n (bef 10 l) = true ∧ (readL f (n + 1) (aft 10 l)).2 = (aft 10 l).length := by
  have hp : 0 < l.length := List.length_pos_iff.2 h0
  cases hc : (decide ((10 : UInt8) ∈ l) && okLine n (bef 10 l))
  · rw [readL_no hc] at h
    simp only at h
    omega
  · simp only [Bool.and_eq_true, decide_eq_true_eq] at hc
    rw [readL_yes hc.1 hc.2] at h
    simp only at h
    have := bef_aft_len hc.1
    exact ⟨hc.1, hc.2, by omega⟩
/-- A text that is read whole, and something more. -/
theorem readL_more : ∀ (f n : Nat) (l x : List UInt8), (readL f n l).2 = l.length → readL f n (l ++ x) = ((readL f n l).1 ++ (readL (f - (readL f n l).1.length) (n + (readL f n l).1.length) x).1, l.length + (readL (f - (readL f n l).1.length) (n + (readL f n l).1.length) x).2)
  | 0, n, l, x, h => by
    have : l = [] := by simpa [readL] using h.symm
    subst this
    simp [readL]
  | f + 1, n, l, x, h => by
    by_cases h0 : l = []
    · subst h0
      rw [readL_nil]
      simp
    · obtain ⟨h1, h2, h3⟩ := readL_parts h0 h
      have ih := readL_more f (n + 1) (aft 10 l) x h3
      have hl := bef_aft_len h1
      rw [readL_yes h1 h2, readL_yes (List.mem_append_left _ h1) (by rw [bef_app _ h1]; exact h2), bef_app _ h1, aft_app _ h1, ih]
      simp only [List.length_cons, List.cons_append]
      rw [show f + 1 - ((readL f (n + 1) (aft 10 l)).1.length + 1) = f - (readL f (n + 1) (aft 10 l)).1.length from by omega, show n + ((readL f (n + 1) (aft 10 l)).1.length + 1) = n + 1 + (readL f (n + 1) (aft 10 l)).1.length from by omega]
      congr 1
      omega
/-- One line. -/
theorem readL_line {f n : Nat} {c r : List UInt8} (hf : 0 < f) (h : recB c r = true) : readL f n (lineL n c r) = ([(c, r)], (lineL n c r).length) := by
  obtain ⟨f, rfl⟩ : ∃ g, f = g + 1 := ⟨f - 1, by omega⟩
  have hm : (10 : UInt8) ∈ lineL n c r := by simp [lineL]
  have hb : bef 10 (lineL n c r) = sealL (bodyL n c r) := bef_at [] (seal_no10 h)
  have ha : aft 10 (lineL n c r) = [] := aft_at [] (seal_no10 h)
  have ho : okLine n (sealL (bodyL n c r)) = true := okLine_of h rfl
  rw [readL_yes hm (by rw [hb]; exact ho), hb, ha, readL_nil, recOf_line h rfl]
  simp [lineL]
/-- A prefix holds the first of the records. -/
theorem readL_take : ∀ (f n : Nat) (l x : List UInt8), ∃ R, (readL f n (l ++ x)).1 = (readL f n l).1 ++ R
  | 0, n, l, x => ⟨[], by simp [readL]⟩
  | f + 1, n, l, x => by
    cases hc : (decide ((10 : UInt8) ∈ l) && okLine n (bef 10 l))
    · exact ⟨(readL (f + 1) n (l ++ x)).1, by rw [readL_no hc]; rfl⟩
    · simp only [Bool.and_eq_true, decide_eq_true_eq] at hc
      obtain ⟨R, hR⟩ := readL_take f (n + 1) (aft 10 l) x
      refine ⟨R, ?_⟩
      rw [readL_yes hc.1 hc.2, readL_yes (List.mem_append_left _ hc.1) (by rw [bef_app _ hc.1]; exact hc.2), bef_app _ hc.1, aft_app _ hc.1, hR]
      rfl
theorem take_mid (A B : List UInt8) (x : UInt8) (m : Nat) : (A ++ x :: B).take (A.length + 1 + m) = A ++ x :: B.take m := by
  rw [List.take_append, List.take_of_length_le (by omega), show A.length + 1 + m - A.length = m + 1 from by omega, List.take_succ_cons]
/-- What is read is read again. -/
theorem readL_cut : ∀ (f n : Nat) (l : List UInt8), readL f n (l.take (readL f n l).2) = readL f n l
  | 0, n, l => by simp [readL]
  | f + 1, n, l => by
    cases hc : (decide ((10 : UInt8) ∈ l) && okLine n (bef 10 l))
    · rw [readL_no hc, List.take_zero, readL_nil]
    · simp only [Bool.and_eq_true, decide_eq_true_eq] at hc
      have ih := readL_cut f (n + 1) (aft 10 l)
      rw [readL_yes hc.1 hc.2]
      generalize hm : (readL f (n + 1) (aft 10 l)).2 = m at *
      have he : l.take ((bef 10 l).length + 1 + m) = bef 10 l ++ 10 :: (aft 10 l).take m := by
        rw [← take_mid (bef 10 l) (aft 10 l) 10 m, ← bef_mem_parts hc.1]
      have hn : (10 : UInt8) ∉ bef 10 l := by
        obtain ⟨a, b, hl, ha⟩ := mem_parts hc.1
        rw [hl, bef_at b ha]; exact ha
      rw [he, readL_yes (by simp) (by rw [bef_at _ hn]; exact hc.2), bef_at _ hn, aft_at _ hn, ih, hm]
/-- A byte more that ends no line. -/
theorem readL_byte {x : UInt8} (hx : x ≠ 10) : ∀ (f n : Nat) (l : List UInt8), readL f n (l ++ [x]) = readL f n l
  | 0, n, l => by simp [readL]
  | f + 1, n, l => by
    by_cases h10 : (10 : UInt8) ∈ l
    · cases ho : okLine n (bef 10 l)
      · rw [readL_no (by rw [bef_app _ h10, ho, Bool.and_false]), readL_no (by rw [ho, Bool.and_false])]
      · rw [readL_yes (List.mem_append_left _ h10) (by rw [bef_app _ h10]; exact ho), readL_yes h10 ho, bef_app _ h10, aft_app _ h10, readL_byte hx f (n + 1) (aft 10 l)]
    · have h10' : (10 : UInt8) ∉ l ++ [x] := by
        rw [List.mem_append, not_or, List.mem_singleton]
        exact ⟨h10, fun e => hx e.symm⟩
      rw [readL_no (by rw [decide_eq_false h10', Bool.false_and]), readL_no (by rw [decide_eq_false h10, Bool.false_and])]
/-- All bytes that are read are small. -/
theorem readL_small : ∀ (f n : Nat) (l : List UInt8), (readL f n l).2 = l.length → ∀ x ∈ l, x.toNat ≤ 126
  | 0, n, l, h => by
    have : l = [] := by simpa [readL] using h.symm
    subst this
    simp
  | f + 1, n, l, h => by
    by_cases h0 : l = []
    · subst h0; simp
    · obtain ⟨h1, h2, h3⟩ := readL_parts h0 h
      obtain ⟨hr, hl⟩ := okLine_facts h2
      intro x hx
      rw [bef_mem_parts h1, show bef 10 l ++ 10 :: aft 10 l = (bef 10 l ++ [10]) ++ aft 10 l from by simp, ← hl] at hx
      rcases List.mem_append.1 hx with hx | hx
      · exact line_small hr hx
      · exact readL_small f (n + 1) (aft 10 l) h3 x hx
/-- The facts of a valid log. -/
theorem validL_facts {d p : List UInt8} {nn : Int} (h : validL d p nn = true) : d.length + p.length ≤ 30000 ∧ (readL 60 0 (d ++ p)).2 = (d ++ p).length ∧ (readL 60 0 d).2 = d.length ∧ ((readR (d ++ p)).length : Int) = nn := by
  simp only [validL, Bool.and_eq_true, decide_eq_true_eq] at h
  obtain ⟨h1, h2, h3, h4⟩ := h
  unfold readN at h2 h3
  exact ⟨h1, by rw [List.length_append]; omega, by omega, h4⟩
theorem validL_intro {d p : List UInt8} {nn : Int} (h1 : d.length + p.length ≤ 30000) (h2 : (readL 60 0 (d ++ p)).2 = (d ++ p).length) (h3 : (readL 60 0 d).2 = d.length) (h4 : ((readR (d ++ p)).length : Int) = nn) : validL d p nn = true := by
  rw [List.length_append] at h2
  have e2 : ((readL 60 0 (d ++ p)).2 : Int) = d.length + p.length := by omega
  have e3 : ((readL 60 0 d).2 : Int) = d.length := by omega
  rw [validL, readN, readN, decide_eq_true h1, decide_eq_true e2, decide_eq_true e3, decide_eq_true h4]
  rfl
/-- Behind SyncLog. -/
theorem sync_valid {d p : List UInt8} {nn : Int} (h : validL d p nn = true) : validL (d ++ p) [] nn = true ∧ readR (d ++ p ++ []) = readR (d ++ p) := by
  obtain ⟨h1, h2, h3, h4⟩ := validL_facts h
  rw [← List.append_nil (d ++ p)] at h2 h4
  refine ⟨validL_intro (by rw [List.length_append]; simpa using h1) h2 (by simpa using h2) h4, by rw [List.append_nil]⟩
theorem line_454 {k : Nat} (hk : k < 1000000) {c r : List UInt8} (h : recB c r = true) : (lineL k c r).length ≤ 454 := by
  obtain ⟨_, hc, hr, _, _, _⟩ := recB_facts h
  have h1 := bodyL_len hk c r
  have h2 := sealL_len (bodyL k c r)
  rw [lineL, List.length_append]
  simp only [List.length_cons, List.length_nil]
  omega
theorem readL_bound : ∀ (f n : Nat) (l : List UInt8), n + f ≤ 1000000 → (readL f n l).2 ≤ 454 * (readL f n l).1.length
  | 0, n, l, _ => by simp [readL]
  | f + 1, n, l, h => by
    cases hc : (decide ((10 : UInt8) ∈ l) && okLine n (bef 10 l))
    · rw [readL_no hc]; simp
    · simp only [Bool.and_eq_true, decide_eq_true_eq] at hc
      obtain ⟨hr, hl⟩ := okLine_facts hc.2
      have h1 := readL_bound f (n + 1) (aft 10 l) (by omega)
      have h2 := line_454 (k := n) (by omega) hr
      rw [hl, List.length_append] at h2
      simp only [List.length_cons, List.length_nil] at h2
      rw [readL_yes hc.1 hc.2]
      simp only [List.length_cons]
      omega
/-- Behind AppendRecord. -/
theorem app_valid {d p c r : List UInt8} {nn : Int} (h : validL d p nn = true) (h60 : nn ≠ 60) (hr : recB c r = true) :
    validL d (p ++ lineL nn.toNat c r) (nn + 1) = true ∧ readR (d ++ (p ++ lineL nn.toNat c r)) = readR (d ++ p) ++ [(c, r)] := by
  obtain ⟨h1, h2, h3, h4⟩ := validL_facts h
  have hc := validL_cnt h
  have hk : (readL 60 0 (d ++ p)).1.length = nn.toNat := by unfold readR at h4; omega
  have hb := readL_bound 60 0 (d ++ p) (by omega)
  have hl4 := line_454 (k := nn.toNat) (by omega) hr
  have hs : d.length + (p ++ lineL nn.toNat c r).length ≤ 30000 := by
    rw [h2, hk, List.length_append] at hb
    rw [List.length_append]
    omega
  have hm := readL_more 60 0 (d ++ p) (lineL nn.toNat c r) h2
  rw [hk, Nat.zero_add, readL_line (by omega) hr] at hm
  rw [List.append_assoc] at hm
  refine ⟨validL_intro hs (by rw [hm]; simp; omega) h3 ?_, by unfold readR; rw [hm]⟩
  unfold readR
  rw [hm]
  simp only [List.length_append, List.length_cons, List.length_nil]
  omega
/-- What is read behind a crash. -/
theorem crash_read {d p : List UInt8} {nn : Int} (h : validL d p nn = true) (k : Nat) (hk : k ≤ p.length) (torn : Bool) : ∃ R, readR (d ++ p) = readR (crashL d p k torn) ++ R ∧ d.length ≤ readN (crashL d p k torn) ∧ (torn = false → k = p.length → R = []) := by
  obtain ⟨h1, h2, h3, h4⟩ := validL_facts h
  have hpre : d ++ p = (d ++ p.take k) ++ p.drop k := by rw [List.append_assoc, List.take_append_drop]
  have hge : ∀ x, d.length ≤ readN (d ++ x) := fun x => by
    unfold readN
    rw [readL_more 60 0 d x h3]
    exact Nat.le_add_right _ _
  by_cases ht : torn = true ∧ 0 < k
  · have hc : crashL d p k torn = d ++ tornL (p.take k) := by rw [crashL, if_pos ht]
    have hge2 := hge (tornL (p.take k))
    rw [hc]
    have hl : (p.take k).length = k := by rw [List.length_take]; omega
    have hq : p.take k = p.take (k - 1) ++ [p[k - 1]'(by omega)] := by
      have := List.take_succ_eq_append_getElem (l := p) (i := k - 1) (by omega)
      rwa [show k - 1 + 1 = k from by omega] at this
    have hx := readL_small 60 0 (d ++ p) h2 (p[k - 1]'(by omega)) (List.mem_append_right _ (List.getElem_mem _))
    generalize p[k - 1]'(by omega) = x at *
    have htl : tornL (p.take k) = p.take (k - 1) ++ [255 - x] := by
      have hl1 : (p.take (k - 1)).length = k - 1 := by rw [List.length_take]; omega
      rw [tornL, hq]
      simp only [List.length_append, List.length_cons, List.length_nil, Nat.zero_add, Nat.add_sub_cancel]
      rw [List.getD_eq_getElem?_getD, List.getElem?_append_right (by omega), Nat.sub_self, List.set_append_right _ _ (by omega), Nat.sub_self]
      rfl
    have hne : (255 - x : UInt8) ≠ 10 := fun e => by
      have := u8_neg x
      rw [e] at this
      have h10 : ((10 : UInt8).toNat : Int) = 10 := rfl
      omega
    have hrd : readR (d ++ tornL (p.take k)) = readR (d ++ p.take (k - 1)) := by
      unfold readR
      rw [htl, ← List.append_assoc, readL_byte hne]
    rw [hrd]
    have hpre2 : d ++ p = (d ++ p.take (k - 1)) ++ p.drop (k - 1) := by rw [List.append_assoc, List.take_append_drop]
    obtain ⟨R, hR⟩ := readL_take 60 0 (d ++ p.take (k - 1)) (p.drop (k - 1))
    exact ⟨R, by rw [hpre2]; exact hR, hge2, fun e => by rw [ht.1] at e; cases e⟩
  · have hc : crashL d p k torn = d ++ p.take k := by rw [crashL, if_neg ht]
    rw [hc]
    obtain ⟨R, hR⟩ := readL_take 60 0 (d ++ p.take k) (p.drop k)
    refine ⟨R, by rw [hpre]; exact hR, hge _, fun _ e => ?_⟩
    subst e
    rw [List.take_length, List.drop_length, List.append_nil] at hR
    have := congrArg List.length hR
    rw [List.length_append] at this
    exact List.length_eq_zero_iff.1 (by omega)
theorem crashL_len {d p : List UInt8} {k : Nat} (hk : k ≤ p.length) (torn : Bool) : (crashL d p k torn).length = d.length + k := by
  have hl : (p.take k).length = k := by rw [List.length_take]; omega
  unfold crashL
  split
  · rw [List.length_append, tornL_len, hl]
  · rw [List.length_append, hl]
/-- What RecoverLog gives back is valid, and holds what was read. -/
theorem recov_valid {l : List UInt8} (hl : l.length ≤ 30000) : validL (l.take (readN l)) [] (readR l).length = true ∧ readR (l.take (readN l) ++ []) = readR l ∧ (l.take (readN l)).length = readN l := by
  have hc := readL_cut 60 0 l
  have hle := (readL_le 60 0 l).1
  unfold readN readR
  have hlen : (l.take (readL 60 0 l).2).length = (readL 60 0 l).2 := by rw [List.length_take]; omega
  refine ⟨validL_intro (by simp; omega) (by rw [List.append_nil, hc, hlen]) (by rw [hc, hlen]) (by rw [List.append_nil, readR, hc]), by rw [List.append_nil, hc], hlen⟩
end Go.Proofs.YtjmolkamaeonmaaDoor
