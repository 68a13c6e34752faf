/-
  Walks of IsValidConsole.
-/
import Derived.Test.YtelnajpjanmliaaDoorDesk
import Derived.Test.YtelnajpjanmliaaDoorLog
set_option linter.unusedVariables false
set_option linter.unusedSimpArgs false
namespace Go.Proofs.YtelnajpjanmliaaDoor
open Go.RowKit Slm
abbrev conW (d : List Int) (a b : List UInt8) (n : Int) : Value := .agg ((d.map iv) ++ [.string (bs a), .string (bs b), iv n]).toArray
theorem laws_toConsole (d : List Int) (hl : d.length = 18) (x y : List UInt8) (nn : Int) (w : World) : Calls Tryd.prog 6 #[conW d x y nn] w fun e w' => e = .returned (conW d x y nn) ∧ Below w.heap.size w w' := by
  have hD := laws_toDesk d hl
  have hL := laws_toLog x y nn
  revert hD
  unfold conW
  obtain ⟨bb, p, cn, rfl, hbb⟩ := list18 hl
  clear hl
  obtain ⟨a0, a1, a2, a3, b0, b1, b2, b3, c0, c1, c2, c3, d0, d1, d2, d3, rfl⟩ := list16 hbb
  clear hbb
  simp only [nums, List.map_cons, List.map_nil, List.cons_append, List.nil_append]
  intro hD
  have HD := Lib.hid hD
  have HL := Lib.hid hL
  clear hD hL
  go_enter Tryd.func6, Tryd.ntmps6
  have hm := Mem.start w
  repeat' (first | (go_at_call 11; refine mem_call hm (HD.out _) ?_; clear hm; intro w hm; (try simp only [nums, List.map_cons, List.map_nil])) | (go_at_call 12; refine mem_call hm (HL.out _) ?_; clear hm; intro w hm; (try simp only [nums, List.map_cons, List.map_nil])) | ((with_reducible refine gix ?_); first | refine mix rfl rfl rfl rfl ?_ | refine mixr rfl rfl rfl rfl ?_; (try simp only [Int.toNat_zero, Int.reduceToNat, Nat.reduceMul, Nat.zero_mul, Nat.one_mul, List.drop_succ_cons, List.drop_zero, List.take_succ_cons, List.take_zero])) | ((with_reducible refine gl ?_); first | refine ml hm rfl rfl rfl ?_ | refine mlw hm rfl rfl rfl ?_ | (refine mlr hm rfl rfl rfl ?_; try simp only [List.drop_succ_cons, List.drop_zero, List.take_succ_cons, List.take_zero])) | ((with_reducible refine gs ?_); (first | refine ms hm rfl rfl rfl rfl rfl ?_ | refine msw hm rfl rfl rfl rfl ?_ | refine msr hm rfl rfl rfl rfl ?_); clear hm; intro w hm; (try simp only [splice, List.set_cons_zero, List.set_cons_succ] at hm)) | ((with_reducible refine gb ?_); (first | refine mem_box hm rfl rfl rfl ?_ | refine mem_box1 hm rfl rfl rfl rfl ?_); clear hm; intro n w hm) | ((with_reducible refine ga ?_); refine mem_alloc hm rfl rfl ?_; clear hm; intro n w hm) | go_values | go_skip | go_guarded | go_step | go_upon | ((with_reducible refine bp ?_); go_back) | ((with_reducible refine up ?_); first | (simp only [Int.not_lt, Int.not_le] at *; go_simp) | (go_values <;> (try go_simp)) | (go_ite <;> go_prune <;> (try go_simp)) | (split <;> (first | (rename_i hx; exact (hx _ rfl).elim) | go_prune))))
  (try simp only [Exit.inBlock, Exit.then])
  (first | (refine ret1 rfl rfl (by (first | exact Res.tmp rfl | exact Res.atw hm rfl | exact Res.at hm rfl)) ?_) | (refine ret2 rfl rfl (by (first | exact Res.tmp rfl | exact Res.atw hm rfl | exact Res.at hm rfl)) (by (first | exact Res.tmp rfl | exact Res.atw hm rfl | exact Res.at hm rfl)) ?_) | (refine ret3 rfl rfl (by (first | exact Res.tmp rfl | exact Res.atw hm rfl | exact Res.at hm rfl)) (by (first | exact Res.tmp rfl | exact Res.atw hm rfl | exact Res.at hm rfl)) (by (first | exact Res.tmp rfl | exact Res.atw hm rfl | exact Res.at hm rfl)) ?_) | (refine ret4 rfl rfl (by (first | exact Res.tmp rfl | exact Res.atw hm rfl | exact Res.at hm rfl)) (by (first | exact Res.tmp rfl | exact Res.atw hm rfl | exact Res.at hm rfl)) (by (first | exact Res.tmp rfl | exact Res.atw hm rfl | exact Res.at hm rfl)) (by (first | exact Res.tmp rfl | exact Res.atw hm rfl | exact Res.at hm rfl)) ?_) | fail "ret")
  exact ⟨rfl, hm.below⟩
theorem laws_szConsole (d : List Int) (hl : d.length = 18) (x y : List UInt8) (nn n0 : Int) (hn : 0 ≤ n0 ∧ n0 ≤ 1048576) (hc : x.length ≤ 9223372036854775807) (hr : y.length ≤ 9223372036854775807) (w : World) : Calls Tryd.prog 4 #[conW d x y nn, iv n0] w fun e w' => e = .returned (iv (szRec x y n0)) ∧ Below w.heap.size w w' := by
  have hL := laws_szLog x y nn n0 hn hc hr
  have hpos : szRec x y n0 < 0 → szRec x y n0 = -1 := by
    unfold szRec
    split
    · intro _; rfl
    · split
      · intro _; rfl
      · intro h; omega
  generalize szRec x y n0 = z at *
  unfold conW
  obtain ⟨bb, p, cn, rfl, hbb⟩ := list18 hl
  clear hl
  obtain ⟨a0, a1, a2, a3, b0, b1, b2, b3, c0, c1, c2, c3, d0, d1, d2, d3, rfl⟩ := list16 hbb
  clear hbb
  simp only [nums, List.map_cons, List.map_nil, List.cons_append, List.nil_append]
  have HL := Lib.hid hL
  clear hL
  by_cases hz : z < 0
  · obtain rfl := hpos hz
    go_enter Tryd.func4, Tryd.ntmps4
    have hm := Mem.start w
    repeat' (first | (go_at_call 8; refine mem_call hm (HL.out _) ?_; clear hm; intro w hm; (try simp only [nums, List.map_cons, List.map_nil])) | ((with_reducible refine gix ?_); first | refine mix rfl rfl rfl rfl ?_ | refine mixr rfl rfl rfl rfl ?_; (try simp only [Int.toNat_zero, Int.reduceToNat, Nat.reduceMul, Nat.zero_mul, Nat.one_mul, List.drop_succ_cons, List.drop_zero, List.take_succ_cons, List.take_zero])) | ((with_reducible refine gl ?_); first | refine ml hm rfl rfl rfl ?_ | refine mlw hm rfl rfl rfl ?_ | (refine mlr hm rfl rfl rfl ?_; try simp only [List.drop_succ_cons, List.drop_zero, List.take_succ_cons, List.take_zero])) | ((with_reducible refine gs ?_); (first | refine ms hm rfl rfl rfl rfl rfl ?_ | refine msw hm rfl rfl rfl rfl ?_ | refine msr hm rfl rfl rfl rfl ?_); clear hm; intro w hm; (try simp only [splice, List.set_cons_zero, List.set_cons_succ] at hm)) | ((with_reducible refine gb ?_); (first | refine mem_box hm rfl rfl rfl ?_ | refine mem_box1 hm rfl rfl rfl rfl ?_); clear hm; intro n w hm) | ((with_reducible refine ga ?_); refine mem_alloc hm rfl rfl ?_; clear hm; intro n w hm) | go_values | go_skip | go_guarded | go_step | go_upon | ((with_reducible refine bp ?_); go_back) | ((with_reducible refine up ?_); first | (simp only [Int.not_lt, Int.not_le] at *; go_simp) | (go_values <;> (try go_simp)) | (go_ite <;> go_prune <;> (try go_simp)) | (split <;> (first | (rename_i hx; exact (hx _ rfl).elim) | go_prune))))
    (try simp only [Exit.inBlock, Exit.then])
    (first | (refine ret1 rfl rfl (by (first | exact Res.tmp rfl | exact Res.atw hm rfl | exact Res.at hm rfl)) ?_) | (refine ret2 rfl rfl (by (first | exact Res.tmp rfl | exact Res.atw hm rfl | exact Res.at hm rfl)) (by (first | exact Res.tmp rfl | exact Res.atw hm rfl | exact Res.at hm rfl)) ?_) | (refine ret3 rfl rfl (by (first | exact Res.tmp rfl | exact Res.atw hm rfl | exact Res.at hm rfl)) (by (first | exact Res.tmp rfl | exact Res.atw hm rfl | exact Res.at hm rfl)) (by (first | exact Res.tmp rfl | exact Res.atw hm rfl | exact Res.at hm rfl)) ?_) | (refine ret4 rfl rfl (by (first | exact Res.tmp rfl | exact Res.atw hm rfl | exact Res.at hm rfl)) (by (first | exact Res.tmp rfl | exact Res.atw hm rfl | exact Res.at hm rfl)) (by (first | exact Res.tmp rfl | exact Res.atw hm rfl | exact Res.at hm rfl)) (by (first | exact Res.tmp rfl | exact Res.atw hm rfl | exact Res.at hm rfl)) ?_) | fail "ret")
    exact ⟨rfl, hm.below⟩
  · clear hpos
    go_enter Tryd.func4, Tryd.ntmps4
    have hm := Mem.start w
    repeat' (first | (go_at_call 8; refine mem_call hm (HL.out _) ?_; clear hm; intro w hm; (try simp only [nums, List.map_cons, List.map_nil])) | ((with_reducible refine gix ?_); first | refine mix rfl rfl rfl rfl ?_ | refine mixr rfl rfl rfl rfl ?_; (try simp only [Int.toNat_zero, Int.reduceToNat, Nat.reduceMul, Nat.zero_mul, Nat.one_mul, List.drop_succ_cons, List.drop_zero, List.take_succ_cons, List.take_zero])) | ((with_reducible refine gl ?_); first | refine ml hm rfl rfl rfl ?_ | refine mlw hm rfl rfl rfl ?_ | (refine mlr hm rfl rfl rfl ?_; try simp only [List.drop_succ_cons, List.drop_zero, List.take_succ_cons, List.take_zero])) | ((with_reducible refine gs ?_); (first | refine ms hm rfl rfl rfl rfl rfl ?_ | refine msw hm rfl rfl rfl rfl ?_ | refine msr hm rfl rfl rfl rfl ?_); clear hm; intro w hm; (try simp only [splice, List.set_cons_zero, List.set_cons_succ] at hm)) | ((with_reducible refine gb ?_); (first | refine mem_box hm rfl rfl rfl ?_ | refine mem_box1 hm rfl rfl rfl rfl ?_); clear hm; intro n w hm) | ((with_reducible refine ga ?_); refine mem_alloc hm rfl rfl ?_; clear hm; intro n w hm) | go_values | go_skip | go_guarded | go_step | go_upon | ((with_reducible refine bp ?_); go_back) | ((with_reducible refine up ?_); first | (simp only [Int.not_lt, Int.not_le] at *; go_simp) | (go_values <;> (try go_simp)) | (go_ite <;> go_prune <;> (try go_simp)) | (split <;> (first | (rename_i hx; exact (hx _ rfl).elim) | go_prune))))
    (try simp only [Exit.inBlock, Exit.then])
    (first | (refine ret1 rfl rfl (by (first | exact Res.tmp rfl | exact Res.atw hm rfl | exact Res.at hm rfl)) ?_) | (refine ret2 rfl rfl (by (first | exact Res.tmp rfl | exact Res.atw hm rfl | exact Res.at hm rfl)) (by (first | exact Res.tmp rfl | exact Res.atw hm rfl | exact Res.at hm rfl)) ?_) | (refine ret3 rfl rfl (by (first | exact Res.tmp rfl | exact Res.atw hm rfl | exact Res.at hm rfl)) (by (first | exact Res.tmp rfl | exact Res.atw hm rfl | exact Res.at hm rfl)) (by (first | exact Res.tmp rfl | exact Res.atw hm rfl | exact Res.at hm rfl)) ?_) | (refine ret4 rfl rfl (by (first | exact Res.tmp rfl | exact Res.atw hm rfl | exact Res.at hm rfl)) (by (first | exact Res.tmp rfl | exact Res.atw hm rfl | exact Res.at hm rfl)) (by (first | exact Res.tmp rfl | exact Res.atw hm rfl | exact Res.at hm rfl)) (by (first | exact Res.tmp rfl | exact Res.atw hm rfl | exact Res.at hm rfl)) ?_) | fail "ret")
    exact ⟨rfl, hm.below⟩
theorem spec_IsValidConsole (d : List Int) (hl : d.length = 18) (x y : List UInt8) (nn : Int) (hx : x.length ≤ 1048576) (hy : y.length ≤ 1048576) (w : World) (hE : Env w) : Calls Tryd.prog 5 #[conW d x y nn] w fun e w' => e = .returned (.bool (deskB d && validL x y nn)) ∧ Below w.heap.size w w' := by
  have hD := spec_l12Good d hl
  have hL := fun (w' : World) (σ : List Blk) (hm : Mem w w' σ) => spec_l12Valid x y nn hx hy w'
  generalize deskB d = q1 at *
  generalize validL x y nn = q2 at *
  revert hD
  unfold conW
  obtain ⟨bb, p, cn, rfl, hbb⟩ := list18 hl
  clear hl
  obtain ⟨a0, a1, a2, a3, b0, b1, b2, b3, c0, c1, c2, c3, d0, d1, d2, d3, rfl⟩ := list16 hbb
  clear hbb
  simp only [nums, List.map_cons, List.map_nil, List.cons_append, List.nil_append]
  intro hD
  have HD := Lib.hid hD
  have HL := Lib.hid hL
  clear hD hL
  cases q1 <;> cases q2
  all_goals
    go_enter Tryd.func5, Tryd.ntmps5
    have hm := Mem.start w
    repeat' (first | (go_at_call 9; refine mem_call hm (HD.out _) ?_; clear hm; intro w hm; (try simp only [nums, List.map_cons, List.map_nil])) | (go_at_call 10; refine mem_call hm (HL.out _ _ hm) ?_; clear hm; intro w hm; (try simp only [nums, List.map_cons, List.map_nil])) | ((with_reducible refine gix ?_); first | refine mix rfl rfl rfl rfl ?_ | refine mixr rfl rfl rfl rfl ?_; (try simp only [Int.toNat_zero, Int.reduceToNat, Nat.reduceMul, Nat.zero_mul, Nat.one_mul, List.drop_succ_cons, List.drop_zero, List.take_succ_cons, List.take_zero])) | ((with_reducible refine gl ?_); first | refine ml hm rfl rfl rfl ?_ | refine mlw hm rfl rfl rfl ?_ | (refine mlr hm rfl rfl rfl ?_; try simp only [List.drop_succ_cons, List.drop_zero, List.take_succ_cons, List.take_zero])) | ((with_reducible refine gs ?_); (first | refine ms hm rfl rfl rfl rfl rfl ?_ | refine msw hm rfl rfl rfl rfl ?_ | refine msr hm rfl rfl rfl rfl ?_); clear hm; intro w hm; (try simp only [splice, List.set_cons_zero, List.set_cons_succ] at hm)) | ((with_reducible refine gb ?_); (first | refine mem_box hm rfl rfl rfl ?_ | refine mem_box1 hm rfl rfl rfl rfl ?_); clear hm; intro n w hm) | ((with_reducible refine ga ?_); refine mem_alloc hm rfl rfl ?_; clear hm; intro n w hm) | go_values | go_skip | go_guarded | go_step | go_upon | ((with_reducible refine bp ?_); go_back) | ((with_reducible refine up ?_); first | (simp only [Int.not_lt, Int.not_le] at *; go_simp) | (go_values <;> (try go_simp)) | (go_ite <;> go_prune <;> (try go_simp)) | (split <;> (first | (rename_i hx; exact (hx _ rfl).elim) | go_prune))))
    (try simp only [Exit.inBlock, Exit.then])
    (first | (refine ret1 rfl rfl (by (first | exact Res.tmp rfl | exact Res.atw hm rfl | exact Res.at hm rfl)) ?_) | (refine ret2 rfl rfl (by (first | exact Res.tmp rfl | exact Res.atw hm rfl | exact Res.at hm rfl)) (by (first | exact Res.tmp rfl | exact Res.atw hm rfl | exact Res.at hm rfl)) ?_) | (refine ret3 rfl rfl (by (first | exact Res.tmp rfl | exact Res.atw hm rfl | exact Res.at hm rfl)) (by (first | exact Res.tmp rfl | exact Res.atw hm rfl | exact Res.at hm rfl)) (by (first | exact Res.tmp rfl | exact Res.atw hm rfl | exact Res.at hm rfl)) ?_) | (refine ret4 rfl rfl (by (first | exact Res.tmp rfl | exact Res.atw hm rfl | exact Res.at hm rfl)) (by (first | exact Res.tmp rfl | exact Res.atw hm rfl | exact Res.at hm rfl)) (by (first | exact Res.tmp rfl | exact Res.atw hm rfl | exact Res.at hm rfl)) (by (first | exact Res.tmp rfl | exact Res.atw hm rfl | exact Res.at hm rfl)) ?_) | fail "ret")
    exact ⟨rfl, hm.below⟩
theorem impl_IsValidConsole (d : List Int) (hl : d.length = 18) (x y : List UInt8) (nn : Int) (hx : x.length ≤ 1048576) (hy : y.length ≤ 1048576) (w : World) (hE : Env w) : Calls Tryd.prog 7 #[conW d x y nn] w fun e w' => e = .returned (.bool (deskB d && validL x y nn)) ∧ Below w.heap.size w w' := by
  have hD := impl_IsDesk d hl
  have hL := fun (w' : World) (σ : List Blk) (hm : Mem w w' σ) => impl_IsValidLog x y nn hx hy w' (hE.mem hm)
  generalize deskB d = q1 at *
  generalize validL x y nn = q2 at *
  revert hD
  unfold conW
  obtain ⟨bb, p, cn, rfl, hbb⟩ := list18 hl
  clear hl
  obtain ⟨a0, a1, a2, a3, b0, b1, b2, b3, c0, c1, c2, c3, d0, d1, d2, d3, rfl⟩ := list16 hbb
  clear hbb
  simp only [nums, List.map_cons, List.map_nil, List.cons_append, List.nil_append]
  intro hD
  have HD := Lib.hid hD
  have HL := Lib.hid hL
  clear hD hL
  cases q1 <;> cases q2
  all_goals
    go_enter Tryd.func7, Tryd.ntmps7
    have hm := Mem.start w
    repeat' (first | (go_at_call 13; refine mem_call hm (HD.out _) ?_; clear hm; intro w hm; (try simp only [nums, List.map_cons, List.map_nil])) | (go_at_call 14; refine mem_call hm (HL.out _ _ hm) ?_; clear hm; intro w hm; (try simp only [nums, List.map_cons, List.map_nil])) | ((with_reducible refine gix ?_); first | refine mix rfl rfl rfl rfl ?_ | refine mixr rfl rfl rfl rfl ?_; (try simp only [Int.toNat_zero, Int.reduceToNat, Nat.reduceMul, Nat.zero_mul, Nat.one_mul, List.drop_succ_cons, List.drop_zero, List.take_succ_cons, List.take_zero])) | ((with_reducible refine gl ?_); first | refine ml hm rfl rfl rfl ?_ | refine mlw hm rfl rfl rfl ?_ | (refine mlr hm rfl rfl rfl ?_; try simp only [List.drop_succ_cons, List.drop_zero, List.take_succ_cons, List.take_zero])) | ((with_reducible refine gs ?_); (first | refine ms hm rfl rfl rfl rfl rfl ?_ | refine msw hm rfl rfl rfl rfl ?_ | refine msr hm rfl rfl rfl rfl ?_); clear hm; intro w hm; (try simp only [splice, List.set_cons_zero, List.set_cons_succ] at hm)) | ((with_reducible refine gb ?_); (first | refine mem_box hm rfl rfl rfl ?_ | refine mem_box1 hm rfl rfl rfl rfl ?_); clear hm; intro n w hm) | ((with_reducible refine ga ?_); refine mem_alloc hm rfl rfl ?_; clear hm; intro n w hm) | go_values | go_skip | go_guarded | go_step | go_upon | ((with_reducible refine bp ?_); go_back) | ((with_reducible refine up ?_); first | (simp only [Int.not_lt, Int.not_le] at *; go_simp) | (go_values <;> (try go_simp)) | (go_ite <;> go_prune <;> (try go_simp)) | (split <;> (first | (rename_i hx; exact (hx _ rfl).elim) | go_prune))))
    (try simp only [Exit.inBlock, Exit.then])
    (first | (refine ret1 rfl rfl (by (first | exact Res.tmp rfl | exact Res.atw hm rfl | exact Res.at hm rfl)) ?_) | (refine ret2 rfl rfl (by (first | exact Res.tmp rfl | exact Res.atw hm rfl | exact Res.at hm rfl)) (by (first | exact Res.tmp rfl | exact Res.atw hm rfl | exact Res.at hm rfl)) ?_) | (refine ret3 rfl rfl (by (first | exact Res.tmp rfl | exact Res.atw hm rfl | exact Res.at hm rfl)) (by (first | exact Res.tmp rfl | exact Res.atw hm rfl | exact Res.at hm rfl)) (by (first | exact Res.tmp rfl | exact Res.atw hm rfl | exact Res.at hm rfl)) ?_) | (refine ret4 rfl rfl (by (first | exact Res.tmp rfl | exact Res.atw hm rfl | exact Res.at hm rfl)) (by (first | exact Res.tmp rfl | exact Res.atw hm rfl | exact Res.at hm rfl)) (by (first | exact Res.tmp rfl | exact Res.atw hm rfl | exact Res.at hm rfl)) (by (first | exact Res.tmp rfl | exact Res.atw hm rfl | exact Res.at hm rfl)) ?_) | fail "ret")
    exact ⟨rfl, hm.below⟩
section
variable {H : Type} {enc : TypeId × Value → H} {P : Program} {w : World} {base : Nat} {spare : Nat → Bool} {held : Bool}
theorem leafs_split {t1 t2 : List TypeId} {cs : List Value} (h : LeafAt enc P w base spare held (t1 ++ t2) cs) : ∃ c1 c2, cs = c1 ++ c2 ∧ LeafAt enc P w base spare held t1 c1 ∧ LeafAt enc P w base spare held t2 c2 := by
  obtain ⟨hl, h⟩ := h
  rw [List.length_append] at hl
  refine ⟨cs.take t1.length, cs.drop t1.length, (List.take_append_drop _ _).symm, ⟨by simp; omega, fun j t hj => ?_⟩, ⟨by simp; omega, fun j t hj => ?_⟩⟩
  · have hlt := (List.getElem?_eq_some_iff.1 hj).1
    obtain ⟨v, f, y, h1, h2⟩ := h j t (by rw [List.getElem?_append_left hlt]; exact hj)
    exact ⟨v, f, y, by rw [List.getElem?_take, if_pos hlt]; exact h1, h2⟩
  · obtain ⟨v, f, y, h1, h2⟩ := h (t1.length + j) t (by rw [List.getElem?_append_right (by omega)]; simpa using hj)
    exact ⟨v, f, y, by rw [List.getElem?_drop]; exact h1, h2⟩
/-- A console as it is handed over. -/
theorem open_console {t ts ti tl : TypeId} {cs : List Value} (hr : leafs P 6 t = List.replicate 18 ti ++ leafs P 6 tl) (hr2 : leafs P 6 tl = [ts, ts, ti]) (hs : P.underlying ts = some .string) (hi : P.underlying ti = some (.int .i64)) (h : LeafAt enc P w base spare held (leafs P 6 t) cs) :
    ∃ (d : List Int) (x y : List UInt8) (nn : Int), cs = d.map iv ++ [.string (bs x), .string (bs y), iv nn] ∧ d.length = 18 ∧ x.length ≤ maxLen ∧ y.length ≤ maxLen := by
  rw [hr] at h
  obtain ⟨c1, c2, rfl, h1, h2⟩ := leafs_split h
  obtain ⟨d, rfl, hd, _⟩ := leaf_int hi 18 c1 h1
  obtain ⟨x, y, nn, rfl, hx, hy, _⟩ := open_log (t := tl) hr2 hs hi h2
  exact ⟨d, x, y, nn, rfl, hd, hx, hy⟩
end
end Go.Proofs.YtelnajpjanmliaaDoor
