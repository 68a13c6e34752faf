/-
  The numbers of a board in one list: slices.Concat of its rows.
-/
import Derived.Test.YtlhchjjegaflhaaLine
import Derived.Lib.AppendZeros
import Derived.Deep.RegionWith
set_option linter.unusedVariables false
set_option linter.unusedSimpArgs false
namespace Go.Proofs.Ytlhchjjegaflhaa
open Go.RowKit Slm
section
variable {P : Program} {ops : Array Oper} {rest : List Oper} {o : Oper} {a : Act} {w0 w : World} {σ : List Blk} {Q : Exit → Act → World → Prop} {n i : Nat} {c : List Value} {t : TypeId}
/-- 'append(nil, make([]T, n)...)'. -/
theorem mapz {T T2 e : TypeId} {s b m : Nat} {k0 kn : IntKind} {sx x : Operand} [hT : IsSlice P T e s b] (h2 : P.underlying T2 = some (.int kn)) (hm : Mem w0 w σ)
    (ho : o.op = .call { callee := .builtin .append, args := #[sx, x], argTypes := #[T, T2] }) (hw : Region.wanted o (yielded ops a.tmps) = true) (hs : ev a sx = some (.slice none 0 0)) (hx : ev a x = some (.int k0 m))
    (k : ∀ g cap Z w', Mem w0 w' (⟨g, Z, e⟩ :: σ) → Fit Z s 0 cap → m ≤ cap → wpList P ops Q rest (a.put o.dst (.slice (some ⟨g, 0, none⟩) m cap)) w')
    (h0 : 0 < m := by first | decide | omega) (hb : m * b ≤ 140737488355328 := by first | decide | omega) (h63 : m ≤ maxLen := by first | (unfold maxLen; omega) | omega) : wpList P ops Q (o :: rest) a w := by
  refine wpList_step fun K hK => ?_
  rw [if_pos hw]
  obtain ⟨ti, z, hi, hz, hsz, hby, hzs⟩ := hT.elem
  have hr := fun ty => Lib.run_append_nil_zeros (P := P) w T T2 ty e ti z k0 kn hT.out h2 hi hz m h0 (by rw [hsz]; exact hT.pos) (by unfold maxLen at h63; omega) (by rw [hby]; omega)
  have hge := grownCap_ge w m 0 e
  have hle := grownCap_le_maxLen w m 0 e h63
  generalize hZ : (Builtin.zeroCells z.cells m ++ Builtin.zeroCells z.cells (grownCap w m 0 e - m)).toList = Z
  have hZl : Z.length = grownCap w m 0 e * s := by
    rw [← hZ]
    simp only [Array.toList_append, List.length_append, Array.length_toList, size_zeroCells, hzs, ← Nat.add_mul]
    congr 1; omega
  have hZ' : Builtin.zeroCells z.cells m ++ Builtin.zeroCells z.cells (grownCap w m 0 e - m) = Z.toArray := by rw [← hZ, Array.toArray_toList]
  unfold Oper.wp execOp
  simp only [ho, resolve, invoke, builtin, Sem.run_bind, Sem.run_pure, Result.andThen_ok, List.map_toArray, List.map_cons, List.map_nil, ev_eval hs, ev_eval hx, hr, hZ']
  exact hK _ _ (k _ _ Z _ (by simpa using hm.drew.alloc Z e) ⟨by omega, hle, hZl⟩ hge)
/-- 'append(xs, ys...)', ys a part of a block that stays. -/
theorem mapr {T e t2 : TypeId} {s b len cap m cc n2 j off : Nat} {sx x : Operand} {c2 : List Value} [hT : IsSlice P T e s b] [hA : At σ n c e i] [hB : At σ n2 c2 t2 j] (hm : Mem w0 w σ)
    (ho : o.op = .call { callee := .builtin .append, args := #[sx, x], argTypes := #[T, T] }) (hw : Region.wanted o (yielded ops a.tmps) = true)
    (hs : ev a sx = some (.slice (some ⟨n, 0, none⟩) len cap)) (hx : ev a x = some (.slice (some ⟨n2, off, none⟩) m cc)) (hf : Fit c s len cap)
    (k : ∀ g cap' more w', Mem w0 w' (⟨g, c.take (len * s) ++ (c2.drop off).take (m * s) ++ more, e⟩ :: σ.eraseIdx i) → Fit (c.take (len * s) ++ (c2.drop off).take (m * s) ++ more) s (len + m) cap' → wpList P ops Q rest (a.put o.dst (.slice (some ⟨g, 0, none⟩) (len + m) cap')) w')
    (hn : off + m * s ≤ c2.length := by first | decide | (simp; done) | (simp; omega) | omega) (h1 : ∀ u ∈ c2, u.oneCell' = true := by first | (simp [Value.oneCell']; done) | assumption) (h0 : 0 < m := by first | decide | omega) (h63 : len + m ≤ maxLen := by first | (unfold maxLen; omega) | omega) (hb : (len + m) * b ≤ 140737488355328 := by omega) : wpList P ops Q (o :: rest) a w := by
  refine wpList_step fun K hK => ?_
  rw [if_pos hw]
  obtain ⟨ti, z, hi, hz, hsz, hby, hzs⟩ := hT.elem
  have hown : w.ownsRow w0.heap.size e s (.slice (some ⟨n, 0, none⟩) len cap) len (c.take (len * s)) := by
    have hle : len * s ≤ cap * s := Nat.mul_le_mul_right _ hf.le
    refine ⟨by rw [List.length_take, hf.size]; omega, .inr ⟨n, cap, c.toArray, rfl, hm.ge (.of hA.out), hm.get (.of hA.out), hf.le, hf.most, by simpa using hf.size, by simp⟩⟩
  obtain ⟨g, cap', w', hr, hown', hg, hgr, _⟩ := run_append_lies (P := P) (w := w) T o.type w0.heap.size e ti z s b hT.out hi hz hsz hby hzs hT.pos _ len _ hown ⟨n2, off, none⟩ m cc ((c2.drop off).take (m * s)) (by simp; omega)
    (fun jj u hu => by rw [Addr.add_mid]; exact hm.range hB.out off (m * s) jj u hu) (fun u hu => h1 u (List.mem_of_mem_drop (List.mem_of_mem_take hu))) h0 h63 hb hm.below.size w.heap.size rfl
  unfold Oper.wp execOp
  simp only [ho, resolve, invoke, builtin, Sem.run_bind, Sem.run_pure, Result.andThen_ok, List.map_toArray, List.map_cons, List.map_nil, ev_eval hs, ev_eval hx, hr]
  obtain ⟨hlen, hn' | ⟨g', cap2, cur, e1, _, hh, h4, h5, h6, h7⟩⟩ := hown'
  · exact absurd hn'.1 (by simp)
  simp only [Value.slice.injEq, Option.some.injEq, Addr.mk.injEq, and_true, true_and] at e1
  obtain ⟨rfl, rfl⟩ := e1
  have hcur : cur.toList = c.take (len * s) ++ (c2.drop off).take (m * s) ++ cur.toList.drop ((len + m) * s) := by rw [← h7, List.take_append_drop]
  refine hK _ _ (k g cap' (cur.toList.drop ((len + m) * s)) w' ?_ ⟨h4, h5, by rw [← hcur]; simpa using h6⟩)
  refine mem_grown hm (List.eraseIdx_sublist _ _) (row := some n) (fun b hb e => ?_) (fun k hk => by cases hk; exact hm.ge (.of hA.out)) hg hgr (by rw [← hcur]; simpa using hh)
  have := erase_ne hA.out hm.apart b hb
  exact this (by simpa using e)
end
theorem concat_flat {w0 w : World} {ns nb : Nat} {a0 a1 a2 a3 b0 b1 b2 b3 c0 c1 c2 c3 d0 d1 d2 d3 : Int} {tb : TypeId} (hm : Mem w0 w [⟨ns, [.slice (some ⟨nb, 0, none⟩) 4 4, .slice (some ⟨nb, 4, none⟩) 4 4, .slice (some ⟨nb, 8, none⟩) 4 4, .slice (some ⟨nb, 12, none⟩) 4 4], 34⟩, ⟨nb, [iv a0, iv a1, iv a2, iv a3, iv b0, iv b1, iv b2, iv b3, iv c0, iv c1, iv c2, iv c3, iv d0, iv d1, iv d2, iv d3], tb⟩]) :
    Calls Try.prog 101 #[.slice (some ⟨ns, 0, none⟩) 4 4] w fun e w' => ∃ v, e = .returned v ∧ Sl w0 w' v 3 1 [iv a0, iv a1, iv a2, iv a3, iv b0, iv b1, iv b2, iv b3, iv c0, iv c1, iv c2, iv c3, iv d0, iv d1, iv d2, iv d3] [] := by
  go_enter Try.func101, Try.ntmps101
  repeat' (first | (go_at_call 117; go_in) | ((with_reducible refine gap ?_); refine mapz (m := 16) Try.underlying3 hm rfl rfl rfl rfl ?_; clear hm; intro g cap Z w hm hf hcap) | ((with_reducible refine gap ?_); refine mapr hm rfl rfl rfl rfl hf ?_; clear hm hf; intro g cap more w hm hf; simp only [List.eraseIdx_cons_succ, List.eraseIdx_cons_zero] at hm; (try simp only [Nat.zero_mul, Nat.mul_one, Nat.zero_add, Nat.reduceAdd, List.take_zero, List.nil_append, List.drop_zero, List.drop_succ_cons, List.take_succ_cons, List.cons_append, List.take_append_of_le_length] at hm hf)) | ((with_reducible refine gix ?_); first | refine mix rfl rfl rfl rfl ?_ | refine mixr rfl rfl rfl rfl ?_; (try simp only [Int.toNat_zero, Int.reduceToNat, Nat.reduceMul, Nat.zero_mul, Nat.one_mul, List.drop_succ_cons, List.drop_zero, List.take_succ_cons, List.take_zero])) | ((with_reducible refine gl ?_); first | refine ml hm rfl rfl rfl ?_ | refine mlw hm rfl rfl rfl ?_ | (refine mlr hm rfl rfl rfl ?_; try simp only [List.drop_succ_cons, List.drop_zero, List.take_succ_cons, List.take_zero])) | ((with_reducible refine gs ?_); (first | refine ms hm rfl rfl rfl rfl rfl ?_ | refine msw hm rfl rfl rfl rfl ?_ | refine msr hm rfl rfl rfl rfl ?_); clear hm; intro w hm; (try simp only [splice, List.set_cons_zero, List.set_cons_succ] at hm)) | ((with_reducible refine gb ?_); (first | refine mem_box hm rfl rfl rfl ?_ | refine mem_box1 hm rfl rfl rfl rfl ?_); clear hm; intro n w hm) | ((with_reducible refine ga ?_); refine mem_alloc hm rfl rfl ?_; clear hm; intro n w hm) | ((with_reducible refine wp_loop_rounds 18 ?_); rw [rounds_succ]) | (with_reducible rw [rounds_succ]) | go_values | go_skip | go_guarded | go_step | go_upon | ((with_reducible refine bp ?_); go_back) | ((with_reducible refine up ?_); first | (simp only [Int.not_lt, Int.not_le] at *; go_simp) | (go_values <;> (try go_simp)) | (go_ite <;> go_prune <;> (try go_simp)) | (split <;> (first | (rename_i hx; exact (hx _ rfl).elim) | go_prune))))
  (try simp only [Exit.inBlock, Exit.then])
  (first | (refine ret1 rfl rfl (by (first | exact Res.tmp rfl | exact Res.atw hm rfl | exact Res.at hm rfl)) ?_) | (refine ret2 rfl rfl (by (first | exact Res.tmp rfl | exact Res.atw hm rfl | exact Res.at hm rfl)) (by (first | exact Res.tmp rfl | exact Res.atw hm rfl | exact Res.at hm rfl)) ?_) | (refine ret3 rfl rfl (by (first | exact Res.tmp rfl | exact Res.atw hm rfl | exact Res.at hm rfl)) (by (first | exact Res.tmp rfl | exact Res.atw hm rfl | exact Res.at hm rfl)) (by (first | exact Res.tmp rfl | exact Res.atw hm rfl | exact Res.at hm rfl)) ?_) | (refine ret4 rfl rfl (by (first | exact Res.tmp rfl | exact Res.atw hm rfl | exact Res.at hm rfl)) (by (first | exact Res.tmp rfl | exact Res.atw hm rfl | exact Res.at hm rfl)) (by (first | exact Res.tmp rfl | exact Res.atw hm rfl | exact Res.at hm rfl)) (by (first | exact Res.tmp rfl | exact Res.atw hm rfl | exact Res.at hm rfl)) ?_) | fail "ret")
  exact ⟨_, rfl, (Sl.of (xs := [iv a0, iv a1, iv a2, iv a3, iv b0, iv b1, iv b2, iv b3, iv c0, iv c1, iv c2, iv c3, iv d0, iv d1, iv d2, iv d3]) hm hf rfl).drop (List.nil_sublist _)⟩
theorem impl_flat (b : List Int) (hl : b.length = 16) (w0 : World) : Calls Try.prog 70 #[.agg (nums b)] w0 fun e w' => ∃ v, e = .returned v ∧ Sl w0 w' v 3 1 (b.map iv) [] := by
  obtain ⟨a0, a1, a2, a3, b0, b1, b2, b3, c0, c1, c2, c3, d0, d1, d2, d3, rfl⟩ := list16 hl
  clear hl
  (try simp only [nums, List.map_cons, List.map_nil])
  go_enter Try.func70, Try.ntmps70
  have hm := Mem.start w0
  repeat' (first  | ((with_reducible refine gix ?_); first | refine mix rfl rfl rfl rfl ?_ | refine mixr rfl rfl rfl rfl ?_; (try simp only [Int.toNat_zero, Int.reduceToNat, Nat.reduceMul, Nat.zero_mul, Nat.one_mul, List.drop_succ_cons, List.drop_zero, List.take_succ_cons, List.take_zero])) | ((with_reducible refine gl ?_); first | refine ml hm rfl rfl rfl ?_ | refine mlw hm rfl rfl rfl ?_ | (refine mlr hm rfl rfl rfl ?_; try simp only [List.drop_succ_cons, List.drop_zero, List.take_succ_cons, List.take_zero])) | ((with_reducible refine gs ?_); (first | refine ms hm rfl rfl rfl rfl rfl ?_ | refine msw hm rfl rfl rfl rfl ?_ | refine msr hm rfl rfl rfl rfl ?_); clear hm; intro w hm; (try simp only [splice, List.set_cons_zero, List.set_cons_succ] at hm)) | ((with_reducible refine gb ?_); (first | refine mem_box hm rfl rfl rfl ?_ | refine mem_box1 hm rfl rfl rfl rfl ?_); clear hm; intro n w hm) | ((with_reducible refine ga ?_); refine mem_alloc hm rfl rfl ?_; clear hm; intro n w hm) | go_values | go_skip | go_guarded | go_step | go_upon | ((with_reducible refine bp ?_); go_back) | ((with_reducible refine up ?_); first | (simp only [Int.not_lt, Int.not_le] at *; go_simp) | (go_values <;> (try go_simp)) | (go_ite <;> go_prune <;> (try go_simp)) | (split <;> (first | (rename_i hx; exact (hx _ rfl).elim) | go_prune))))
  go_region_with (go_at_call 101; refine mem_callS (concat_flat (w0 := w0) ((hm.alloc [_, _, _, _] 34).drew)) ?_; clear hm; intro g more len cap w hm hf hx; simp only [])
  all_goals
    repeat' (first  | ((with_reducible refine gix ?_); first | refine mix rfl rfl rfl rfl ?_ | refine mixr rfl rfl rfl rfl ?_; (try simp only [Int.toNat_zero, Int.reduceToNat, Nat.reduceMul, Nat.zero_mul, Nat.one_mul, List.drop_succ_cons, List.drop_zero, List.take_succ_cons, List.take_zero])) | ((with_reducible refine gl ?_); first | refine ml hm rfl rfl rfl ?_ | refine mlw hm rfl rfl rfl ?_ | (refine mlr hm rfl rfl rfl ?_; try simp only [List.drop_succ_cons, List.drop_zero, List.take_succ_cons, List.take_zero])) | ((with_reducible refine gs ?_); (first | refine ms hm rfl rfl rfl rfl rfl ?_ | refine msw hm rfl rfl rfl rfl ?_ | refine msr hm rfl rfl rfl rfl ?_); clear hm; intro w hm; (try simp only [splice, List.set_cons_zero, List.set_cons_succ] at hm)) | ((with_reducible refine gb ?_); (first | refine mem_box hm rfl rfl rfl ?_ | refine mem_box1 hm rfl rfl rfl rfl ?_); clear hm; intro n w hm) | ((with_reducible refine ga ?_); refine mem_alloc hm rfl rfl ?_; clear hm; intro n w hm) | go_values | go_skip | go_guarded | go_step | go_upon | ((with_reducible refine bp ?_); go_back) | ((with_reducible refine up ?_); first | (simp only [Int.not_lt, Int.not_le] at *; go_simp) | (go_values <;> (try go_simp)) | (go_ite <;> go_prune <;> (try go_simp)) | (split <;> (first | (rename_i hx; exact (hx _ rfl).elim) | go_prune))))
    (try simp only [Exit.inBlock, Exit.then])
    (first | (refine ret1 rfl rfl (by (first | exact Res.tmp rfl | exact Res.atw hm rfl | exact Res.at hm rfl)) ?_) | (refine ret2 rfl rfl (by (first | exact Res.tmp rfl | exact Res.atw hm rfl | exact Res.at hm rfl)) (by (first | exact Res.tmp rfl | exact Res.atw hm rfl | exact Res.at hm rfl)) ?_) | (refine ret3 rfl rfl (by (first | exact Res.tmp rfl | exact Res.atw hm rfl | exact Res.at hm rfl)) (by (first | exact Res.tmp rfl | exact Res.atw hm rfl | exact Res.at hm rfl)) (by (first | exact Res.tmp rfl | exact Res.atw hm rfl | exact Res.at hm rfl)) ?_) | (refine ret4 rfl rfl (by (first | exact Res.tmp rfl | exact Res.atw hm rfl | exact Res.at hm rfl)) (by (first | exact Res.tmp rfl | exact Res.atw hm rfl | exact Res.at hm rfl)) (by (first | exact Res.tmp rfl | exact Res.atw hm rfl | exact Res.at hm rfl)) (by (first | exact Res.tmp rfl | exact Res.atw hm rfl | exact Res.at hm rfl)) ?_) | fail "ret")
    exact ⟨_, rfl, Sl.of hm hf hx⟩
end Go.Proofs.Ytlhchjjegaflhaa
