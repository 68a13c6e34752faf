/-
  Walks of vBig and vCut: how the laws look at a code and cut it.
-/
import Derived.Test.YtjmolkamaeonmaaDoorCode
import Derived.Deep.Upon
set_option linter.unusedVariables false
set_option linter.unusedSimpArgs false
namespace Go.Proofs.YtjmolkamaeonmaaDoor
open Go.RowKit Slm
section
variable {P : Program} {ops : Array Oper} {rest : List Oper} {o : Oper} {a : Act} {w0 w : World} {σ : List Blk} {Q : Exit → Act → World → Prop} {n i : Nat} {c : List Value} {t : TypeId}
/-- 'append(xs, ys...)', ys a part of memory that was there before the call. -/
theorem mapo {T e : TypeId} {s b len cap m cc n2 off : Nat} {sx x : Operand} (ys : List Value) [hT : IsSlice P T e s b] [hA : At σ n c e i] (hm : Mem w0 w σ)
    (ho : o.op = .call { callee := .builtin .append, args := #[sx, x], argTypes := #[T, T] }) (hw : Region.wanted o (yielded ops a.tmps) = true)
    (hs : ev a sx = some (.slice (some ⟨n, 0, none⟩) len cap)) (hx : ev a x = some (.slice (some ⟨n2, off, none⟩) m cc)) (hf : Fit c s len cap) (hn : ys.length = m * s)
    (hc : ∀ j u, ys[j]? = some u → w0.cell? ⟨n2, off + j, none⟩ = some u) (h1 : ∀ u ∈ ys, u.oneCell' = true)
    (k : ∀ g cap' more w', Mem w0 w' (⟨g, c.take (len * s) ++ ys ++ more, e⟩ :: σ.eraseIdx i) → Fit (c.take (len * s) ++ ys ++ more) s (len + m) cap' → wpList P ops Q rest (a.put o.dst (.slice (some ⟨g, 0, none⟩) (len + m) cap')) w')
    (h0 : 0 < m := by first | decide | omega) (h63 : len + m ≤ maxLen := by first | (unfold maxLen; omega) | omega) (hb : (len + m) * b ≤ 140737488355328 := by omega) : wpList P ops Q (o :: rest) a w := by
  refine wpList_step fun K hK => ?_
  rw [if_pos hw]
  obtain ⟨ti, z, hi, hz, hsz, hby, hzs⟩ := hT.elem
  have hown : w.ownsRow w0.heap.size e s (.slice (some ⟨n, 0, none⟩) len cap) len (c.take (len * s)) := by
    have hle : len * s ≤ cap * s := Nat.mul_le_mul_right _ hf.le
    refine ⟨by rw [List.length_take, hf.size]; omega, .inr ⟨n, cap, c.toArray, rfl, hm.ge (.of hA.out), hm.get (.of hA.out), hf.le, hf.most, by simpa using hf.size, by simp⟩⟩
  obtain ⟨g, cap', w', hr, hown', hg, hgr, _⟩ := run_append_lies (P := P) (w := w) T o.type w0.heap.size e ti z s b hT.out hi hz hsz hby hzs hT.pos _ len _ hown ⟨n2, off, none⟩ m cc ys hn
    (fun jj u hu => by rw [Addr.add_mid]; exact (hm.old (World.block_lt_of_cell? w0 _ (hc jj u hu))).trans (hc jj u hu)) h1 h0 h63 hb hm.below.size w.heap.size rfl
  unfold Oper.wp execOp
  simp only [ho, resolve, invoke, builtin, Sem.run_bind, Sem.run_pure, Result.andThen_ok, List.map_toArray, List.map_cons, List.map_nil, ev_eval hs, ev_eval hx, hr]
  obtain ⟨hlen, hn' | ⟨g', cap2, cur, e1, _, hh, h4, h5, h6, h7⟩⟩ := hown'
  · exact absurd hn'.1 (by simp)
  simp only [Value.slice.injEq, Option.some.injEq, Addr.mk.injEq, and_true, true_and] at e1
  obtain ⟨rfl, rfl⟩ := e1
  have hcur : cur.toList = c.take (len * s) ++ ys ++ cur.toList.drop ((len + m) * s) := by rw [← h7, List.take_append_drop]
  refine hK _ _ (k g cap' (cur.toList.drop ((len + m) * s)) w' ?_ ⟨h4, h5, by rw [← hcur]; simpa using h6⟩)
  refine mem_grown hm (List.eraseIdx_sublist _ _) (row := some n) (fun b hb e => ?_) (fun k hk => by cases hk; exact hm.ge (.of hA.out)) hg hgr (by rw [← hcur]; simpa using hh)
  have := erase_ne hA.out hm.apart b hb
  exact this (by simpa using e)
/-- 'append(xs, ys...)', ys empty. -/
theorem mapz {T e : TypeId} {s b len cap cc : Nat} {p q : Option Addr} {sx x : Operand} [hT : IsSlice P T e s b] (hm : Mem w0 w σ)
    (ho : o.op = .call { callee := .builtin .append, args := #[sx, x], argTypes := #[T, T] }) (hw : Region.wanted o (yielded ops a.tmps) = true)
    (hs : ev a sx = some (.slice p len cap)) (hx : ev a x = some (.slice q 0 cc)) (hle : len ≤ cap)
    (k : wpList P ops Q rest (a.put o.dst (.slice p len cap)) w) : wpList P ops Q (o :: rest) a w := by
  refine wpList_step fun K hK => ?_
  rw [if_pos hw]
  obtain ⟨ti, z, hi, hz, hsz, hby, hzs⟩ := hT.elem
  have hS : Src P ti.size T (.slice q 0 cc) 0 [] w := by
    cases q with
    | none => exact ⟨.inl ⟨e, hT.out⟩, fun w' => by simp [Builtin.lenOf], by simp [Builtin.firstCells], by simp [Builtin.firstCells], by simp, by simp⟩
    | some ad => exact ⟨.inl ⟨e, hT.out⟩, fun w' => by simp [Builtin.lenOf], by simp [Builtin.firstCells, loadCells, loadCellsFrom], by simp [Builtin.firstCells, loadCells, loadCellsFrom], by simp, by simp⟩
  have hr := run_append_nothing w T T o.type e ti hT.out hi p len cap hle (.slice q 0 cc) hS
  unfold Oper.wp execOp
  simp only [ho, resolve, invoke, builtin, Sem.run_bind, Sem.run_pure, Result.andThen_ok, List.map_toArray, List.map_cons, List.map_nil, ev_eval hs, ev_eval hx, hr]
  exact hK _ _ k
end
theorem laws_vBig (g : Option Addr) (n cap : Nat) (hn : n ≤ 9223372036854775807) (w : World) : Calls Tryd.prog 34 #[.slice g n cap] w fun e w' => e = .returned (.bool (decide (65536 < n))) ∧ Below w.heap.size w w' := by
  by_cases h : 65536 < n
  · rw [decide_eq_true h]
    go_enter Tryd.func34, Tryd.ntmps34
    have hm := Mem.start w
    repeat' (first  | ((with_reducible refine gix ?_); first | refine mix rfl rfl rfl rfl ?_ | refine mixr rfl rfl rfl rfl ?_; (try simp only [Int.toNat_zero, Int.reduceToNat, Nat.reduceMul, Nat.zero_mul, Nat.one_mul, List.drop_succ_cons, List.drop_zero, List.take_succ_cons, List.take_zero])) | ((with_reducible refine gl ?_); first | refine ml hm rfl rfl rfl ?_ | refine mlw hm rfl rfl rfl ?_ | (refine mlr hm rfl rfl rfl ?_; try simp only [List.drop_succ_cons, List.drop_zero, List.take_succ_cons, List.take_zero])) | ((with_reducible refine gs ?_); (first | refine ms hm rfl rfl rfl rfl rfl ?_ | refine msw hm rfl rfl rfl rfl ?_ | refine msr hm rfl rfl rfl rfl ?_); clear hm; intro w hm; (try simp only [splice, List.set_cons_zero, List.set_cons_succ] at hm)) | ((with_reducible refine gb ?_); (first | refine mem_box hm rfl rfl rfl ?_ | refine mem_box1 hm rfl rfl rfl rfl ?_); clear hm; intro n w hm) | ((with_reducible refine ga ?_); refine mem_alloc hm rfl rfl ?_; clear hm; intro n w hm) | go_values | go_skip | go_guarded | go_step | go_upon | ((with_reducible refine bp ?_); go_back) | ((with_reducible refine up ?_); first | (simp only [Int.not_lt, Int.not_le] at *; go_simp) | (go_values <;> (try go_simp)) | (go_ite <;> go_prune <;> (try go_simp)) | (split <;> (first | (rename_i hx; exact (hx _ rfl).elim) | go_prune))))
    (try simp only [Exit.inBlock, Exit.then])
    (first | (refine ret1 rfl rfl (by (first | exact Res.tmp rfl | exact Res.atw hm rfl | exact Res.at hm rfl)) ?_) | (refine ret2 rfl rfl (by (first | exact Res.tmp rfl | exact Res.atw hm rfl | exact Res.at hm rfl)) (by (first | exact Res.tmp rfl | exact Res.atw hm rfl | exact Res.at hm rfl)) ?_) | (refine ret3 rfl rfl (by (first | exact Res.tmp rfl | exact Res.atw hm rfl | exact Res.at hm rfl)) (by (first | exact Res.tmp rfl | exact Res.atw hm rfl | exact Res.at hm rfl)) (by (first | exact Res.tmp rfl | exact Res.atw hm rfl | exact Res.at hm rfl)) ?_) | (refine ret4 rfl rfl (by (first | exact Res.tmp rfl | exact Res.atw hm rfl | exact Res.at hm rfl)) (by (first | exact Res.tmp rfl | exact Res.atw hm rfl | exact Res.at hm rfl)) (by (first | exact Res.tmp rfl | exact Res.atw hm rfl | exact Res.at hm rfl)) (by (first | exact Res.tmp rfl | exact Res.atw hm rfl | exact Res.at hm rfl)) ?_) | fail "ret")
    exact ⟨by rw [decide_eq_true (by omega)], hm.below⟩
  · rw [decide_eq_false h]
    go_enter Tryd.func34, Tryd.ntmps34
    have hm := Mem.start w
    repeat' (first  | ((with_reducible refine gix ?_); first | refine mix rfl rfl rfl rfl ?_ | refine mixr rfl rfl rfl rfl ?_; (try simp only [Int.toNat_zero, Int.reduceToNat, Nat.reduceMul, Nat.zero_mul, Nat.one_mul, List.drop_succ_cons, List.drop_zero, List.take_succ_cons, List.take_zero])) | ((with_reducible refine gl ?_); first | refine ml hm rfl rfl rfl ?_ | refine mlw hm rfl rfl rfl ?_ | (refine mlr hm rfl rfl rfl ?_; try simp only [List.drop_succ_cons, List.drop_zero, List.take_succ_cons, List.take_zero])) | ((with_reducible refine gs ?_); (first | refine ms hm rfl rfl rfl rfl rfl ?_ | refine msw hm rfl rfl rfl rfl ?_ | refine msr hm rfl rfl rfl rfl ?_); clear hm; intro w hm; (try simp only [splice, List.set_cons_zero, List.set_cons_succ] at hm)) | ((with_reducible refine gb ?_); (first | refine mem_box hm rfl rfl rfl ?_ | refine mem_box1 hm rfl rfl rfl rfl ?_); clear hm; intro n w hm) | ((with_reducible refine ga ?_); refine mem_alloc hm rfl rfl ?_; clear hm; intro n w hm) | go_values | go_skip | go_guarded | go_step | go_upon | ((with_reducible refine bp ?_); go_back) | ((with_reducible refine up ?_); first | (simp only [Int.not_lt, Int.not_le] at *; go_simp) | (go_values <;> (try go_simp)) | (go_ite <;> go_prune <;> (try go_simp)) | (split <;> (first | (rename_i hx; exact (hx _ rfl).elim) | go_prune))))
    (try simp only [Exit.inBlock, Exit.then])
    (first | (refine ret1 rfl rfl (by (first | exact Res.tmp rfl | exact Res.atw hm rfl | exact Res.at hm rfl)) ?_) | (refine ret2 rfl rfl (by (first | exact Res.tmp rfl | exact Res.atw hm rfl | exact Res.at hm rfl)) (by (first | exact Res.tmp rfl | exact Res.atw hm rfl | exact Res.at hm rfl)) ?_) | (refine ret3 rfl rfl (by (first | exact Res.tmp rfl | exact Res.atw hm rfl | exact Res.at hm rfl)) (by (first | exact Res.tmp rfl | exact Res.atw hm rfl | exact Res.at hm rfl)) (by (first | exact Res.tmp rfl | exact Res.atw hm rfl | exact Res.at hm rfl)) ?_) | (refine ret4 rfl rfl (by (first | exact Res.tmp rfl | exact Res.atw hm rfl | exact Res.at hm rfl)) (by (first | exact Res.tmp rfl | exact Res.atw hm rfl | exact Res.at hm rfl)) (by (first | exact Res.tmp rfl | exact Res.atw hm rfl | exact Res.at hm rfl)) (by (first | exact Res.tmp rfl | exact Res.atw hm rfl | exact Res.at hm rfl)) ?_) | fail "ret")
    exact ⟨by rw [decide_eq_false (by omega)], hm.below⟩
theorem code_of {H : Type} {enc : TypeId × Value → H} {base : Nat} {spare : Nat → Bool} {held : Bool} {dd : DataW H} {ps : List MemPlace} {w0 : World} {g : Option Addr} {len cap : Nat} (h : DataW.Trod enc Tryd.prog w0 base spare held 53 (.slice g len cap) dd ps) :
    ∃ l : List Nat, len = l.length ∧ OldCode w0 g l ∧ (∀ x ∈ l, x < 256) ∧ len ≤ cap ∧ cap ≤ maxLen := by
  obtain ⟨fuel, h⟩ := h
  change DataW.trod enc Tryd.prog w0 base spare held fuel 53 [.slice g len cap] = some (dd, ps) at h
  exact open_code (te := 5) Tryd.underlying53 (by kernel_rfl) Tryd.underlying5 h
/-- The code that is left, and the number behind it. -/
def cutL (l : List Nat) (k : Nat) : List Nat := l.drop k ++ [k]
theorem cutL_len (l : List Nat) (k : Nat) : (cutL l k).length = l.length - k + 1 := by simp [cutL]
theorem cutL_small {l : List Nat} {k : Nat} (hk : k < 256) (hb : ∀ x ∈ l, x < 256) : ∀ x ∈ cutL l k, x < 256 := fun x hx => by
  rcases List.mem_append.1 hx with h | h
  · exact hb x (List.mem_of_mem_drop h)
  · rw [List.mem_singleton] at h; omega
theorem laws_vCut {w0 w : World} {σ : List Blk} {cap : Nat} {g : Option Addr} {l : List Nat} (hO : OldCode w0 g l) (hl : l.length ≤ 65536) (hcap : l.length ≤ cap ∧ cap ≤ maxLen) (k : Nat) (hk : k ≤ 3) (hm : Mem w0 w σ) :
    Calls Tryd.prog 37 #[.slice g l.length cap, iv k] w fun e w' => ∃ u, e = .returned u ∧ Sl w0 w' u 5 1 (bytesV (cutL l (min k l.length))) σ := by
  have hfit0 : Fit ([] : List Value) 1 0 0 := ⟨by omega, by omega, rfl⟩
  by_cases hlt : k < l.length
  · rw [Nat.min_eq_left (by omega)]
    obtain ⟨n8, off8, rfl, hc8⟩ := hO.out (by intro e; subst e; simp at hlt)
    have hy1 : (bytesV (l.drop k)).length = (l.length - k) * 1 := by rw [bytesV_len, List.length_drop]; omega
    have hy2 : ∀ (j : Nat) (u : Value), (bytesV (l.drop k))[j]? = some u → w0.cell? ⟨n8, off8 + k + j, none⟩ = some u := fun j u hu => by
      rw [bytesV, List.getElem?_map, List.getElem?_drop] at hu
      cases hx : l[k + j]? with
      | none => rw [hx] at hu; cases hu
      | some x =>
        rw [hx] at hu
        obtain ⟨hj, rfl⟩ := List.getElem?_eq_some_iff.1 hx
        have := hc8 (k + j) hj
        rw [← Nat.add_assoc] at this
        rw [this]; exact hu
    have hy3 : ∀ u ∈ bytesV (l.drop k), u.oneCell' = true := fun u hu => by
      obtain ⟨x, _, rfl⟩ := List.mem_map.1 hu
      rfl
    have hcut : bytesV (cutL l k) = bytesV (l.drop k) ++ [u8w k] := by simp [bytesV, cutL]
    rw [hcut]
    generalize bytesV (l.drop k) = ys at *
    go_enter Tryd.func37, Tryd.ntmps37
    repeat' (first | ((with_reducible refine gbs ?_); refine mbs hm rfl rfl rfl ?_; clear hm; intro n w hm; (try simp only [List.flatMap_cons, List.flatMap_nil, Value.cells, List.append_nil, List.cons_append, List.nil_append] at hm)) | ((with_reducible refine gap ?_); refine mapo ys hm rfl rfl rfl rfl hfit0 hy1 hy2 hy3 ?_; clear hm; intro g cap2 more w hm hf; simp only [Nat.zero_mul, List.take_zero, List.nil_append, Nat.zero_add] at hm hf; (try simp only [List.eraseIdx_cons_succ, List.eraseIdx_cons_zero] at hm)) | ((with_reducible refine gap ?_); refine map_ hm rfl rfl rfl rfl hf ?_; clear hm hf; intro g cap3 more w hm hf; rw [List.take_left' hy1] at hm hf; (try simp only [List.eraseIdx_cons_succ, List.eraseIdx_cons_zero, Nat.zero_add, Nat.reduceAdd, Nat.reduceSub, Nat.reduceLT, if_true, if_false] at hm)) | ((with_reducible refine gix ?_); first | refine mix rfl rfl rfl rfl ?_ | refine mixr rfl rfl rfl rfl ?_; (try simp only [Int.toNat_zero, Int.reduceToNat, Nat.reduceMul, Nat.zero_mul, Nat.one_mul, List.drop_succ_cons, List.drop_zero, List.take_succ_cons, List.take_zero])) | ((with_reducible refine gl ?_); first | refine ml hm rfl rfl rfl ?_ | refine mlw hm rfl rfl rfl ?_ | (refine mlr hm rfl rfl rfl ?_; try simp only [List.drop_succ_cons, List.drop_zero, List.take_succ_cons, List.take_zero])) | ((with_reducible refine gs ?_); (first | refine ms hm rfl rfl rfl rfl rfl ?_ | refine msw hm rfl rfl rfl rfl ?_ | refine msr hm rfl rfl rfl rfl ?_); clear hm; intro w hm; (try simp only [splice, List.set_cons_zero, List.set_cons_succ] at hm)) | ((with_reducible refine gb ?_); (first | refine mem_box hm rfl rfl rfl ?_ | refine mem_box1 hm rfl rfl rfl rfl ?_); clear hm; intro n w hm) | ((with_reducible refine ga ?_); refine mem_alloc hm rfl rfl ?_; clear hm; intro n w hm) | go_values | go_skip | go_guarded | go_step | go_upon | ((with_reducible refine bp ?_); go_back) | ((with_reducible refine up ?_); first | (simp only [Int.not_lt, Int.not_le] at *; go_simp) | (go_values <;> (try go_simp)) | (go_ite <;> go_prune <;> (try go_simp)) | (split <;> (first | (rename_i hx; exact (hx _ rfl).elim) | go_prune))))
    (try simp only [Exit.inBlock, Exit.then])
    (first | (refine ret1 rfl rfl (by (first | exact Res.tmp rfl | exact Res.atw hm rfl | exact Res.at hm rfl)) ?_) | (refine ret2 rfl rfl (by (first | exact Res.tmp rfl | exact Res.atw hm rfl | exact Res.at hm rfl)) (by (first | exact Res.tmp rfl | exact Res.atw hm rfl | exact Res.at hm rfl)) ?_) | (refine ret3 rfl rfl (by (first | exact Res.tmp rfl | exact Res.atw hm rfl | exact Res.at hm rfl)) (by (first | exact Res.tmp rfl | exact Res.atw hm rfl | exact Res.at hm rfl)) (by (first | exact Res.tmp rfl | exact Res.atw hm rfl | exact Res.at hm rfl)) ?_) | (refine ret4 rfl rfl (by (first | exact Res.tmp rfl | exact Res.atw hm rfl | exact Res.at hm rfl)) (by (first | exact Res.tmp rfl | exact Res.atw hm rfl | exact Res.at hm rfl)) (by (first | exact Res.tmp rfl | exact Res.atw hm rfl | exact Res.at hm rfl)) (by (first | exact Res.tmp rfl | exact Res.atw hm rfl | exact Res.at hm rfl)) ?_) | fail "ret")
    exact ⟨_, rfl, Sl.of hm hf (by simp; omega)⟩
  · rw [Nat.min_eq_right (by omega)]
    have hcut : bytesV (cutL l l.length) = [u8w l.length] := by simp [bytesV, cutL]
    rw [hcut]
    have hq : k = l.length ∨ l.length < k := by omega
    rcases hq with rfl | hq <;> cases g
    all_goals
      go_enter Tryd.func37, Tryd.ntmps37
      repeat' (first | ((with_reducible refine gbs ?_); refine mbs hm rfl rfl rfl ?_; clear hm; intro n w hm; (try simp only [List.flatMap_cons, List.flatMap_nil, Value.cells, List.append_nil, List.cons_append, List.nil_append] at hm)) | ((with_reducible refine gap ?_); refine mapz hm rfl rfl rfl rfl (Nat.le_refl _) ?_) | ((with_reducible refine gap ?_); refine map_ hm rfl rfl rfl rfl hfit0 ?_; clear hm; intro g cap3 more w hm hf; simp only [Nat.zero_mul, List.take_zero, List.nil_append] at hm hf; (try simp only [List.eraseIdx_cons_succ, List.eraseIdx_cons_zero, Nat.zero_add, Nat.reduceAdd, Nat.reduceSub, Nat.reduceLT, if_true, if_false] at hm)) | ((with_reducible refine gix ?_); first | refine mix rfl rfl rfl rfl ?_ | refine mixr rfl rfl rfl rfl ?_; (try simp only [Int.toNat_zero, Int.reduceToNat, Nat.reduceMul, Nat.zero_mul, Nat.one_mul, List.drop_succ_cons, List.drop_zero, List.take_succ_cons, List.take_zero])) | ((with_reducible refine gl ?_); first | refine ml hm rfl rfl rfl ?_ | refine mlw hm rfl rfl rfl ?_ | (refine mlr hm rfl rfl rfl ?_; try simp only [List.drop_succ_cons, List.drop_zero, List.take_succ_cons, List.take_zero])) | ((with_reducible refine gs ?_); (first | refine ms hm rfl rfl rfl rfl rfl ?_ | refine msw hm rfl rfl rfl rfl ?_ | refine msr hm rfl rfl rfl rfl ?_); clear hm; intro w hm; (try simp only [splice, List.set_cons_zero, List.set_cons_succ] at hm)) | ((with_reducible refine gb ?_); (first | refine mem_box hm rfl rfl rfl ?_ | refine mem_box1 hm rfl rfl rfl rfl ?_); clear hm; intro n w hm) | ((with_reducible refine ga ?_); refine mem_alloc hm rfl rfl ?_; clear hm; intro n w hm) | go_values | go_skip | go_guarded | go_step | go_upon | ((with_reducible refine bp ?_); go_back) | ((with_reducible refine up ?_); first | (simp only [Int.not_lt, Int.not_le] at *; go_simp) | (go_values <;> (try go_simp)) | (go_ite <;> go_prune <;> (try go_simp)) | (split <;> (first | (rename_i hx; exact (hx _ rfl).elim) | go_prune))))
      all_goals
        (try simp only [Exit.inBlock, Exit.then])
        (first | (refine ret1 rfl rfl (by (first | exact Res.tmp rfl | exact Res.atw hm rfl | exact Res.at hm rfl)) ?_) | (refine ret2 rfl rfl (by (first | exact Res.tmp rfl | exact Res.atw hm rfl | exact Res.at hm rfl)) (by (first | exact Res.tmp rfl | exact Res.atw hm rfl | exact Res.at hm rfl)) ?_) | (refine ret3 rfl rfl (by (first | exact Res.tmp rfl | exact Res.atw hm rfl | exact Res.at hm rfl)) (by (first | exact Res.tmp rfl | exact Res.atw hm rfl | exact Res.at hm rfl)) (by (first | exact Res.tmp rfl | exact Res.atw hm rfl | exact Res.at hm rfl)) ?_) | (refine ret4 rfl rfl (by (first | exact Res.tmp rfl | exact Res.atw hm rfl | exact Res.at hm rfl)) (by (first | exact Res.tmp rfl | exact Res.atw hm rfl | exact Res.at hm rfl)) (by (first | exact Res.tmp rfl | exact Res.atw hm rfl | exact Res.at hm rfl)) (by (first | exact Res.tmp rfl | exact Res.atw hm rfl | exact Res.at hm rfl)) ?_) | fail "ret")
        exact ⟨_, rfl, Sl.of hm hf (by simp)⟩
/-- The same, as a step of a walk. -/
theorem call_vCut {w0 w : World} {σ : List Blk} {cap : Nat} {g : Option Addr} {l : List Nat} {k : Int} {R : Ending → World → Prop} (hO : OldCode w0 g l) (hl : l.length ≤ 65536) (hb : ∀ x ∈ l, x < 256) (hcap : l.length ≤ cap ∧ cap ≤ maxLen) (hk0 : 0 ≤ k) (hk : k ≤ 3) (hm : Mem w0 w σ)
    (K : ∀ (l' : List Nat) g more cap w', l'.length ≤ 65537 → (∀ x ∈ l', x < 256) → Mem w0 w' (⟨g, bytesV l' ++ more, 5⟩ :: σ) → R (.returned (.slice (some ⟨g, 0, none⟩) l'.length cap)) w') : Calls Tryd.prog 37 #[.slice g l.length cap, iv k] w R := by
  obtain ⟨n, rfl⟩ := Int.eq_ofNat_of_zero_le hk0
  refine mem_callS (laws_vCut hO hl hcap n (by omega) hm) fun g more len cap w' h1 h2 h3 => ?_
  rw [bytesV_len, Nat.mul_one] at h3
  subst h3
  exact K _ g more cap w' (by rw [cutL_len]; omega) (cutL_small (by omega) hb) h1
end Go.Proofs.YtjmolkamaeonmaaDoor
