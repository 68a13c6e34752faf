/-
  Walks of vBig and vCut: how the laws look at a code and cut it.
-/
import Derived.Test.YtlhchjjegaflhaaCode
import Derived.Deep.Upon
set_option linter.unusedVariables false
set_option linter.unusedSimpArgs false
namespace Go.Proofs.Ytlhchjjegaflhaa
open Go.RowKit Slm
section
variable {P : Program} {ops : Array Oper} {rest : List Oper} {o : Oper} {a : Act} {w0 w : World} {σ : List Blk} {Q : Exit → Act → World → Prop} {n i : Nat} {c : List Value} {t : TypeId}
/-- 'append(xs, ys...)', ys a part of memory that was there before the call. -/
theorem mapo {T e : TypeId} {s b len cap m cc n2 off : Nat} {sx x : Operand} (ys : List Value) [hT : IsSlice P T e s b] [hA : At σ n c e i] (hm : Mem w0 w σ)
    (ho : o.op = .call { callee := .builtin .append, args := #[sx, x], argTypes := #[T, T] }) (hw : Region.wanted o (yielded ops a.tmps) = true)
    (hs : ev a sx = some (.slice (some ⟨n, 0, none⟩) len cap)) (hx : ev a x = some (.slice (some ⟨n2, off, none⟩) m cc)) (hf : Fit c s len cap) (hn : ys.length = m * s)
    (hc : ∀ j u, ys[j]? = some u → w0.cell? ⟨n2, off + j, none⟩ = some u) (h1 : ∀ u ∈ ys, u.oneCell' = true)
    (k : ∀ g cap' more w', Mem w0 w' (⟨g, c.take (len * s) ++ ys ++ more, e⟩ :: σ.eraseIdx i) → Fit (c.take (len * s) ++ ys ++ more) s (len + m) cap' → wpList P ops Q rest (a.put o.dst (.slice (some ⟨g, 0, none⟩) (len + m) cap')) w')
    (h0 : 0 < m := by first | decide | omega) (h63 : len + m ≤ maxLen := by first | (unfold maxLen; omega) | omega) (hb : (len + m) * b ≤ 140737488355328 := by omega) : wpList P ops Q (o :: rest) a w := by
  refine wpList_step fun K hK => ?_
  rw [if_pos hw]
  obtain ⟨ti, z, hi, hz, hsz, hby, hzs⟩ := hT.elem
  have hown : w.ownsRow w0.heap.size e s (.slice (some ⟨n, 0, none⟩) len cap) len (c.take (len * s)) := by
    have hle : len * s ≤ cap * s := Nat.mul_le_mul_right _ hf.le
    refine ⟨by rw [List.length_take, hf.size]; omega, .inr ⟨n, cap, c.toArray, rfl, hm.ge (.of hA.out), hm.get (.of hA.out), hf.le, hf.most, by simpa using hf.size, by simp⟩⟩
  obtain ⟨g, cap', w', hr, hown', hg, hgr, _⟩ := run_append_lies (P := P) (w := w) T o.type w0.heap.size e ti z s b hT.out hi hz hsz hby hzs hT.pos _ len _ hown ⟨n2, off, none⟩ m cc ys hn
    (fun jj u hu => by rw [Addr.add_mid]; exact (hm.old (World.block_lt_of_cell? w0 _ (hc jj u hu))).trans (hc jj u hu)) h1 h0 h63 hb hm.below.size w.heap.size rfl
  unfold Oper.wp execOp
  simp only [ho, resolve, invoke, builtin, Sem.run_bind, Sem.run_pure, Result.andThen_ok, List.map_toArray, List.map_cons, List.map_nil, ev_eval hs, ev_eval hx, hr]
  obtain ⟨hlen, hn' | ⟨g', cap2, cur, e1, _, hh, h4, h5, h6, h7⟩⟩ := hown'
  · exact absurd hn'.1 (by simp)
  simp only [Value.slice.injEq, Option.some.injEq, Addr.mk.injEq, and_true, true_and] at e1
  obtain ⟨rfl, rfl⟩ := e1
  have hcur : cur.toList = c.take (len * s) ++ ys ++ cur.toList.drop ((len + m) * s) := by rw [← h7, List.take_append_drop]
  refine hK _ _ (k g cap' (cur.toList.drop ((len + m) * s)) w' ?_ ⟨h4, h5, by rw [← hcur]; simpa using h6⟩)
  refine mem_grown hm (List.eraseIdx_sublist _ _) (row := some n) (fun b hb e => ?_) (fun k hk => by cases hk; exact hm.ge (.of hA.out)) hg hgr (by rw [← hcur]; simpa using hh)
  have := erase_ne hA.out hm.apart b hb
  exact this (by simpa using e)
/-- 'append(xs, ys...)', ys empty. -/
theorem mapzN {T e : TypeId} {s b len cap cc : Nat} {p q : Option Addr} {sx x : Operand} [hT : IsSlice P T e s b] (hm : Mem w0 w σ)
    (ho : o.op = .call { callee := .builtin .append, args := #[sx, x], argTypes := #[T, T] }) (hw : Region.wanted o (yielded ops a.tmps) = true)
    (hs : ev a sx = some (.slice p len cap)) (hx : ev a x = some (.slice q 0 cc)) (hle : len ≤ cap)
    (k : wpList P ops Q rest (a.put o.dst (.slice p len cap)) w) : wpList P ops Q (o :: rest) a w := by
  refine wpList_step fun K hK => ?_
  rw [if_pos hw]
  obtain ⟨ti, z, hi, hz, hsz, hby, hzs⟩ := hT.elem
  have hS : Src P ti.size T (.slice q 0 cc) 0 [] w := by
    cases q with
    | none => exact ⟨.inl ⟨e, hT.out⟩, fun w' => by simp [Builtin.lenOf], by simp [Builtin.firstCells], by simp [Builtin.firstCells], by simp, by simp⟩
    | some ad => exact ⟨.inl ⟨e, hT.out⟩, fun w' => by simp [Builtin.lenOf], by simp [Builtin.firstCells, loadCells, loadCellsFrom], by simp [Builtin.firstCells, loadCells, loadCellsFrom], by simp, by simp⟩
  have hr := run_append_nothing w T T o.type e ti hT.out hi p len cap hle (.slice q 0 cc) hS
  unfold Oper.wp execOp
  simp only [ho, resolve, invoke, builtin, Sem.run_bind, Sem.run_pure, Result.andThen_ok, List.map_toArray, List.map_cons, List.map_nil, ev_eval hs, ev_eval hx, hr]
  exact hK _ _ k
end
theorem laws_rBig (g : Option Addr) (n cap : Nat) (hn : n ≤ 9223372036854775807) (w : World) : Calls Try.prog 6 #[.slice g n cap] w fun e w' => e = .returned (.bool (decide (65536 < n))) ∧ Below w.heap.size w w' := by
  by_cases h : 65536 < n
  · rw [decide_eq_true h]
    go_enter Try.func6, Try.ntmps6
    have hm := Mem.start w
    repeat' (first  | ((with_reducible refine gix ?_); first | refine mix rfl rfl rfl rfl ?_ | refine mixr rfl rfl rfl rfl ?_; (try simp only [Int.toNat_zero, Int.reduceToNat, Nat.reduceMul, Nat.zero_mul, Nat.one_mul, List.drop_succ_cons, List.drop_zero, List.take_succ_cons, List.take_zero])) | ((with_reducible refine gl ?_); first | refine ml hm rfl rfl rfl ?_ | refine mlw hm rfl rfl rfl ?_ | (refine mlr hm rfl rfl rfl ?_; try simp only [List.drop_succ_cons, List.drop_zero, List.take_succ_cons, List.take_zero])) | ((with_reducible refine gs ?_); (first | refine ms hm rfl rfl rfl rfl rfl ?_ | refine msw hm rfl rfl rfl rfl ?_ | refine msr hm rfl rfl rfl rfl ?_); clear hm; intro w hm; (try simp only [splice, List.set_cons_zero, List.set_cons_succ] at hm)) | ((with_reducible refine gb ?_); (first | refine mem_box hm rfl rfl rfl ?_ | refine mem_box1 hm rfl rfl rfl rfl ?_); clear hm; intro n w hm) | ((with_reducible refine ga ?_); refine mem_alloc hm rfl rfl ?_; clear hm; intro n w hm) | go_values | go_skip | go_guarded | go_step | go_upon | ((with_reducible refine bp ?_); go_back) | ((with_reducible refine up ?_); first | (simp only [Int.not_lt, Int.not_le] at *; go_simp) | (go_values <;> (try go_simp)) | (go_ite <;> go_prune <;> (try go_simp)) | (split <;> (first | (rename_i hx; exact (hx _ rfl).elim) | go_prune))))
    (try simp only [Exit.inBlock, Exit.then])
    (first | (refine ret1 rfl rfl (by (first | exact Res.tmp rfl | exact Res.atw hm rfl | exact Res.at hm rfl)) ?_) | (refine ret2 rfl rfl (by (first | exact Res.tmp rfl | exact Res.atw hm rfl | exact Res.at hm rfl)) (by (first | exact Res.tmp rfl | exact Res.atw hm rfl | exact Res.at hm rfl)) ?_) | (refine ret3 rfl rfl (by (first | exact Res.tmp rfl | exact Res.atw hm rfl | exact Res.at hm rfl)) (by (first | exact Res.tmp rfl | exact Res.atw hm rfl | exact Res.at hm rfl)) (by (first | exact Res.tmp rfl | exact Res.atw hm rfl | exact Res.at hm rfl)) ?_) | (refine ret4 rfl rfl (by (first | exact Res.tmp rfl | exact Res.atw hm rfl | exact Res.at hm rfl)) (by (first | exact Res.tmp rfl | exact Res.atw hm rfl | exact Res.at hm rfl)) (by (first | exact Res.tmp rfl | exact Res.atw hm rfl | exact Res.at hm rfl)) (by (first | exact Res.tmp rfl | exact Res.atw hm rfl | exact Res.at hm rfl)) ?_) | fail "ret")
    exact ⟨by rw [decide_eq_true (by omega)], hm.below⟩
  · rw [decide_eq_false h]
    go_enter Try.func6, Try.ntmps6
    have hm := Mem.start w
    repeat' (first  | ((with_reducible refine gix ?_); first | refine mix rfl rfl rfl rfl ?_ | refine mixr rfl rfl rfl rfl ?_; (try simp only [Int.toNat_zero, Int.reduceToNat, Nat.reduceMul, Nat.zero_mul, Nat.one_mul, List.drop_succ_cons, List.drop_zero, List.take_succ_cons, List.take_zero])) | ((with_reducible refine gl ?_); first | refine ml hm rfl rfl rfl ?_ | refine mlw hm rfl rfl rfl ?_ | (refine mlr hm rfl rfl rfl ?_; try simp only [List.drop_succ_cons, List.drop_zero, List.take_succ_cons, List.take_zero])) | ((with_reducible refine gs ?_); (first | refine ms hm rfl rfl rfl rfl rfl ?_ | refine msw hm rfl rfl rfl rfl ?_ | refine msr hm rfl rfl rfl rfl ?_); clear hm; intro w hm; (try simp only [splice, List.set_cons_zero, List.set_cons_succ] at hm)) | ((with_reducible refine gb ?_); (first | refine mem_box hm rfl rfl rfl ?_ | refine mem_box1 hm rfl rfl rfl rfl ?_); clear hm; intro n w hm) | ((with_reducible refine ga ?_); refine mem_alloc hm rfl rfl ?_; clear hm; intro n w hm) | go_values | go_skip | go_guarded | go_step | go_upon | ((with_reducible refine bp ?_); go_back) | ((with_reducible refine up ?_); first | (simp only [Int.not_lt, Int.not_le] at *; go_simp) | (go_values <;> (try go_simp)) | (go_ite <;> go_prune <;> (try go_simp)) | (split <;> (first | (rename_i hx; exact (hx _ rfl).elim) | go_prune))))
    (try simp only [Exit.inBlock, Exit.then])
    (first | (refine ret1 rfl rfl (by (first | exact Res.tmp rfl | exact Res.atw hm rfl | exact Res.at hm rfl)) ?_) | (refine ret2 rfl rfl (by (first | exact Res.tmp rfl | exact Res.atw hm rfl | exact Res.at hm rfl)) (by (first | exact Res.tmp rfl | exact Res.atw hm rfl | exact Res.at hm rfl)) ?_) | (refine ret3 rfl rfl (by (first | exact Res.tmp rfl | exact Res.atw hm rfl | exact Res.at hm rfl)) (by (first | exact Res.tmp rfl | exact Res.atw hm rfl | exact Res.at hm rfl)) (by (first | exact Res.tmp rfl | exact Res.atw hm rfl | exact Res.at hm rfl)) ?_) | (refine ret4 rfl rfl (by (first | exact Res.tmp rfl | exact Res.atw hm rfl | exact Res.at hm rfl)) (by (first | exact Res.tmp rfl | exact Res.atw hm rfl | exact Res.at hm rfl)) (by (first | exact Res.tmp rfl | exact Res.atw hm rfl | exact Res.at hm rfl)) (by (first | exact Res.tmp rfl | exact Res.atw hm rfl | exact Res.at hm rfl)) ?_) | fail "ret")
    exact ⟨by rw [decide_eq_false (by omega)], hm.below⟩
theorem code_of {H : Type} {enc : TypeId × Value → H} {base : Nat} {spare : Nat → Bool} {held : Bool} {dd : DataW H} {ps : List MemPlace} {w0 : World} {g : Option Addr} {len cap : Nat} (h : DataW.Trod enc Try.prog w0 base spare held 22 (.slice g len cap) dd ps) :
    ∃ l : List Nat, len = l.length ∧ OldCode w0 g l ∧ (∀ x ∈ l, x < 256) ∧ len ≤ cap ∧ cap ≤ maxLen := by
  obtain ⟨fuel, h⟩ := h
  change DataW.trod enc Try.prog w0 base spare held fuel 22 [.slice g len cap] = some (dd, ps) at h
  exact open_code (te := 5) Try.underlying22 (by kernel_rfl) Try.underlying5 h
/-- The code that is left, and the number behind it. -/
def cutL (l : List Nat) (k : Nat) : List Nat := l.drop k ++ [k]
theorem cutL_len (l : List Nat) (k : Nat) : (cutL l k).length = l.length - k + 1 := by simp [cutL]
theorem cutL_small {l : List Nat} {k : Nat} (hk : k < 256) (hb : ∀ x ∈ l, x < 256) : ∀ x ∈ cutL l k, x < 256 := fun x hx => by
  rcases List.mem_append.1 hx with h | h
  · exact hb x (List.mem_of_mem_drop h)
  · rw [List.mem_singleton] at h; omega
end Go.Proofs.Ytlhchjjegaflhaa
