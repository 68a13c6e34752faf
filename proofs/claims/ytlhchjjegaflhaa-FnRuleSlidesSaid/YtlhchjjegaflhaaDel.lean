/-
  Walks of the library's searches and deletions by a predicate, over lists of numbers and lists of pairs that the call itself has made. No condition of their own.
-/
import Derived.Test.YtlhchjjegaflhaaCommon
import Derived.Test.YtlhchjjegaflhaaFam
import Derived.Test.YtlhchjjegaflhaaRowMath
import Derived.Lib.SliceRun
set_option linter.unusedVariables false
set_option linter.unusedSimpArgs false
namespace Go.Proofs.Ytlhchjjegaflhaa
open Go.RowKit Slm
/-! ### rules -/
section
variable {P : Program} {ops : Array Oper} {rest : List Oper} {o : Oper} {a : Act} {w0 w : World} {σ τ : List Blk} {Q : Exit → Act → World → Prop} {n i : Nat} {c : List Value} {t : TypeId}
theorem mem_callM {f : FuncId} {args : Array Value} {v : Value} {R : Ending → World → Prop} (h : Calls P f args w fun e w' => e = .returned v ∧ Mem w0 w' τ)
    (k : ∀ w', Mem w0 w' τ → R (.returned v) w') : Calls P f args w R :=
  h.mono fun e w' ⟨he, hb⟩ => by subst he; exact k w' hb
theorem gcl {d : Option Tmp} {ty : TypeId} {xs : Array Operand} {ts : Array TypeId} {po : String} {af : Array Edge} {gd : Option (Nat × Bool)} (k : wpList P ops Q (⟨d, .call ⟨.builtin .clear, xs, ts⟩, ty, po, af, gd⟩ :: rest) a w) : wpList P ops Q (⟨d, .call ⟨.builtin .clear, xs, ts⟩, ty, po, af, gd⟩ :: rest) a w := k
/-- 'clear(xs)' of a slice of the call's own: its cells are some cells. -/
theorem mclr {T e : TypeId} {s b off m cap : Nat} {x : Operand} {zs : List Value} [hT : IsSlice P T e s b] [hz : Zero P e zs] [hA : At σ n c t i] (hm : Mem w0 w σ)
    (ho : o.op = .call { callee := .builtin .clear, args := #[x], argTypes := #[T] }) (hw : Region.wanted o (yielded ops a.tmps) = true) (hx : ev a x = some (.slice (some ⟨n, off, none⟩) m cap))
    (k : ∀ Z w', Z.length = m * s → Mem w0 w' (σ.set i ⟨n, splice c off Z, t⟩) → wpList P ops Q rest (a.put o.dst (.tuple #[])) w')
    (hl : off + m * s ≤ c.length := by first | decide | (simp; done) | (simp; omega) | omega) (h0 : 0 < m := by first | decide | omega) (h1 : zs.all (·.oneCell') = true := by first | rfl | (simp [Value.oneCell']; done)) : wpList P ops Q (o :: rest) a w := by
  refine wpList_step fun K hK => ?_
  rw [if_pos hw]
  obtain ⟨ti, z, hi, hz0, hsz, hby, hzs⟩ := hT.elem
  obtain ⟨v, hv, hc⟩ := hz.out
  have hvz : v = z := by simpa [hi, hz0] using hv.symm
  subst hvz
  have hr0 : (zeroValue e).run P w = .ok v w := by simp [zeroValue, typeInfo, hi, hz0, go_sem]
  generalize hZ : (Builtin.zeroCells v.cells m).toList = Z
  have hZl : Z.length = m * s := by rw [← hZ]; simp [Builtin.zeroCells, hzs]
  have hst := run_storeCells_cells (P := P) n off Z 0 w (fun j hj => by rw [hm.cell (.of hA.out), List.getElem?_eq_getElem (by omega)]; rfl) (fun j hj => hm.frozen (.of hA.out) _) (by
    intro u hu
    rw [← hZ] at hu
    simp only [Builtin.zeroCells, Array.mem_toList_iff, Array.mem_map, Array.mem_range] at hu
    obtain ⟨q, hq, rfl⟩ := hu
    have hq' : q % v.cells.size < v.cells.size := Nat.mod_lt _ (by rw [hzs]; exact hT.pos)
    rw [List.all_eq_true] at h1
    refine h1 _ ?_
    rw [← hc, getElem!_pos v.cells _ hq']
    exact Array.getElem_mem_toList hq')
  simp only [Nat.add_zero] at hst
  obtain ⟨m, rfl⟩ : ∃ m', m = m' + 1 := ⟨m - 1, by omega⟩
  have hr : ∀ ty, (Builtin.clear_ #[T] ty #[.slice (some ⟨n, off, none⟩) (m + 1) cap]).run P w = .ok (.tuple #[]) (w.setCells n off Z) := by
    intro ty
    unfold Builtin.clear_
    simp only [List.getElem?_toArray, List.getElem?_cons_zero, Sem.run_bind, run_underlying hT.out, Result.andThen_ok, hr0, hZ, hst, Sem.run_pure]
  unfold Oper.wp execOp
  simp only [ho, resolve, invoke, builtin, Sem.run_bind, Sem.run_pure, Result.andThen_ok, List.map_toArray, List.map_cons, List.map_nil, ev_eval hx, hr]
  exact hK _ _ (k Z _ hZl (hm.sets (.of hA.out) (.of_set hA.out)))
theorem Mem.lift {w' : World} (hm : Mem w0 w σ) (h : Mem w w' τ) : Mem w0 w' (τ ++ σ) := by
  have h1 := hm.next h.below
  refine ⟨h1.below, fun b hb => ?_, fun b hb => ?_, List.pairwise_append.2 ⟨h.apart, h1.apart, fun x hx y hy e => ?_⟩⟩
  · rcases List.mem_append.1 hb with hb | hb
    · have := h.own b hb
      have := hm.below.size
      omega
    · exact h1.own b hb
  · rcases List.mem_append.1 hb with hb | hb
    · exact h.lies b hb
    · exact h1.lies b hb
  · have := h.own x hx
    have := (Array.getElem?_eq_some_iff.1 (hm.lies y hy)).1
    omega
theorem Sl.lift {w' : World} {v : Value} {e : TypeId} {s : Nat} {xs : List Value} (hm : Mem w0 w σ) (h : Sl w w' v e s xs τ) : Sl w0 w' v e s xs (τ ++ σ) := by
  obtain ⟨g, more, len, cap, rfl, h1, h2, h3⟩ := h
  exact ⟨g, more, len, cap, rfl, hm.lift h1, h2, h3⟩
theorem Sl.drop {v : Value} {e : TypeId} {s : Nat} {xs : List Value} (h : Sl w0 w v e s xs σ) (hs : τ.Sublist σ) : Sl w0 w v e s xs τ := by
  obtain ⟨g, more, len, cap, rfl, h1, h2, h3⟩ := h
  exact ⟨g, more, len, cap, rfl, h1.drop (hs.cons_cons _), h2, h3⟩
/-- A callee that returns a slice of its own, or of the caller's. -/
theorem mem_callS {f : FuncId} {args : Array Value} {R : Ending → World → Prop} {T : TypeId} {s : Nat} {xs : List Value} (h : Calls P f args w fun e w' => ∃ v, e = .returned v ∧ Sl w0 w' v T s xs σ)
    (k : ∀ g more len cap w', Mem w0 w' (⟨g, xs ++ more, T⟩ :: σ) → Fit (xs ++ more) s len cap → xs.length = len * s → R (.returned (.slice (some ⟨g, 0, none⟩) len cap)) w') : Calls P f args w R :=
  h.mono fun e w' ⟨v, he, g, more, len, cap, hv, h1, h2, h3⟩ => by subst he; subst hv; exact k g more len cap w' h1 h2 h3
theorem mem_callN {f : FuncId} {args : Array Value} {R : Ending → World → Prop} {T : TypeId} {s : Nat} {xs : List Value} (hm : Mem w0 w σ) (h : Calls P f args w fun e w' => ∃ v, e = .returned v ∧ Sl w w' v T s xs [])
    (k : ∀ g more len cap w', Mem w0 w' (⟨g, xs ++ more, T⟩ :: σ) → Fit (xs ++ more) s len cap → xs.length = len * s → R (.returned (.slice (some ⟨g, 0, none⟩) len cap)) w') : Calls P f args w R :=
  mem_callS (h.mono fun e w' ⟨v, he, hs⟩ => ⟨v, he, by simpa using Sl.lift hm hs⟩) k
theorem Fit.none {s : Nat} : Fit [] s 0 0 := ⟨Nat.le_refl _, by unfold maxLen; omega, by simp⟩
end
theorem nums_map (l : List Int) : nums l = (l.map iv).toArray := rfl
/-- The place of the first of which p holds, -1 if there is none. -/
def ixZ {α : Type} (p : α → Bool) (xs : List α) : Int := if xs.findIdx p < xs.length then (xs.findIdx p : Int) else -1
theorem ixZ_here {α : Type} {p : α → Bool} {xs : List α} {k : Nat} (hk : k < xs.length) (hp : p xs[k] = true) (hall : ∀ j (h : j < k), p (xs[j]'(by omega)) = false) : ixZ p xs = k := by
  have : xs.findIdx p = k := (List.findIdx_eq hk).2 ⟨hp, hall⟩
  unfold ixZ
  rw [this, if_pos hk]
theorem ixZ_none {α : Type} {p : α → Bool} {xs : List α} (hall : ∀ j (h : j < xs.length), p xs[j] = false) : ixZ p xs = -1 := by
  unfold ixZ
  rw [if_neg]
  intro h
  have h2 := List.findIdx_getElem (w := h)
  rw [hall _ h] at h2
  cases h2
theorem drop_at {C : List Value} {α : Type} {enc : α → Value} {xs : List α} {more : List Value} {j : Nat} (h : C.drop j = (xs.drop j).map enc ++ more) (hj : j < xs.length) : C[j]? = some (enc xs[j]) ∧ C.drop (j + 1) = (xs.drop (j + 1)).map enc ++ more := by
  have e : xs.drop j = xs[j] :: xs.drop (j + 1) := List.drop_eq_getElem_cons hj
  rw [e, List.map_cons, List.cons_append] at h
  have h1 : (C.drop j)[0]? = some (enc xs[j]) := by rw [h]; rfl
  refine ⟨by simpa using h1, ?_⟩
  have h2 : (C.drop j).drop 1 = (xs.drop (j + 1)).map enc ++ more := by rw [h]; rfl
  rw [List.drop_drop] at h2
  exact h2
theorem drop_set {C : List Value} {i j : Nat} {v : Value} (h : i < j) : (C.set i v).drop j = C.drop j := by
  rw [List.drop_set, if_pos h]
theorem take_set {C : List Value} {i : Nat} {v : Value} (h : i < C.length) : (C.set i v).take (i + 1) = C.take i ++ [v] := by
  rw [List.take_succ_eq_append_getElem (by simpa using h)]
  simp [List.take_set_of_le]
theorem filter_take {α : Type} (q : α → Bool) (xs : List α) (j : Nat) (h : j < xs.length) : (xs.take (j + 1)).filter q = (xs.take j).filter q ++ (if q xs[j] then [xs[j]] else []) := by
  rw [List.take_succ_eq_append_getElem h, List.filter_append]
  congr 1
  simp [List.filter_cons]
theorem ixZ_cases {α : Type} (p : α → Bool) (xs : List α) : (ixZ p xs = -1 ∧ xs.filter (fun x => !p x) = xs) ∨ ∃ (k : Nat) (h : k < xs.length), ixZ p xs = k ∧ p xs[k] = true ∧ (xs.take k).filter (fun x => !p x) = xs.take k := by
  by_cases h : xs.findIdx p < xs.length
  · refine .inr ⟨_, h, by unfold ixZ; rw [if_pos h], List.findIdx_getElem (w := h), ?_⟩
    rw [List.filter_eq_self]
    intro x hx
    obtain ⟨j, hj, rfl⟩ := List.getElem_of_mem hx
    have hj' : j < xs.findIdx p := by simp at hj; omega
    have := List.not_of_lt_findIdx hj'
    simpa using this
  · refine .inl ⟨by unfold ixZ; rw [if_neg h], ?_⟩
    rw [List.filter_eq_self]
    intro x hx
    have : xs.findIdx p = xs.length := by have := List.findIdx_le_length (xs := xs) (p := p); omega
    have := List.findIdx_eq_length.1 this x hx
    simpa using this
theorem ixF_tiles {w0 w : World} {σ : List Blk} {g i len cap : Nat} {xs : List Int} {more : List Value}  (hm : Mem w0 w σ) [At σ g (xs.map iv ++ more) 3 i] (hx : xs.length = len) (hl : len ≤ 1000000) (p : Int → Bool)
    (hp : ∀ x wr, Mem w0 wr σ → Calls Try.prog 130 #[iv x] wr fun e w' => e = .returned (.bool (p x)) ∧ Below wr.heap.size wr w') :
    Calls Try.prog 100 #[.slice (some ⟨g, 0, none⟩) len cap, .func (.func 130) #[] #[]] w fun e w' => e = .returned (iv (ixZ p xs)) ∧ Mem w0 w' σ := by
  go_enter Try.func100, Try.ntmps100
  have HP := Lib.hid hp
  clear hp
  repeat' (first  | ((with_reducible refine gix ?_); first | refine mix rfl rfl rfl rfl ?_ | refine mixr rfl rfl rfl rfl ?_; (try simp only [Int.toNat_zero, Int.reduceToNat, Nat.reduceMul, Nat.zero_mul, Nat.one_mul, List.drop_succ_cons, List.drop_zero, List.take_succ_cons, List.take_zero])) | ((with_reducible refine gl ?_); first | refine ml hm rfl rfl rfl ?_ | refine mlw hm rfl rfl rfl ?_ | (refine mlr hm rfl rfl rfl ?_; try simp only [List.drop_succ_cons, List.drop_zero, List.take_succ_cons, List.take_zero])) | ((with_reducible refine gs ?_); (first | refine ms hm rfl rfl rfl rfl rfl ?_ | refine msw hm rfl rfl rfl rfl ?_ | refine msr hm rfl rfl rfl rfl ?_); clear hm; intro w hm; (try simp only [splice, List.set_cons_zero, List.set_cons_succ] at hm)) | ((with_reducible refine gb ?_); (first | refine mem_box hm rfl rfl rfl ?_ | refine mem_box1 hm rfl rfl rfl rfl ?_); clear hm; intro n w hm) | ((with_reducible refine ga ?_); refine mem_alloc hm rfl rfl ?_; clear hm; intro n w hm) | go_values | go_skip | go_guarded | go_step | go_upon | ((with_reducible refine bp ?_); go_back) | ((with_reducible refine up ?_); first | (simp only [Int.not_lt, Int.not_le] at *; go_simp) | (go_values <;> (try go_simp)) | (go_ite <;> go_prune <;> (try go_simp)) | (split <;> (first | (rename_i hx; exact (hx _ rfl).elim) | go_prune))))
  go_loopw [8] (fun i wr => ∃ k : Nat, k ≤ len ∧ i = iv k ∧ (∀ j (h : j < k) (h' : j < xs.length), p xs[j] = false) ∧ Mem w0 wr σ) (fun i _ => len - (intOf i).toNat)
  case atStart => exact ⟨0, by omega, rfl, by intro j h; omega, hm⟩
  case round =>
    clear hm
    obtain ⟨k, hk, rfl, hall, hm⟩ := hrel
    have HA := Lib.hid hall
    clear hall
    by_cases hlt : k < len
    · have hk' : k < xs.length := by omega
      have hv : (xs.map iv ++ more)[k]? = some (iv xs[k]) := by rw [List.getElem?_append_left (by simpa using hk'), List.getElem?_map, List.getElem?_eq_getElem hk']; rfl
      generalize hq : xs[k] = x at hv
      cases hpx : p x
      · have HX := Lib.hid hpx
        repeat' (first | (go_at_call 130; refine mem_call hm (HP.out _ _ hm) ?_; clear hm; intro w hm; simp only [HX.out]) | ((with_reducible refine gix ?_); first | refine mix rfl rfl rfl rfl ?_ | refine mixr rfl rfl rfl rfl ?_; (try simp only [Int.toNat_zero, Int.reduceToNat, Nat.reduceMul, Nat.zero_mul, Nat.one_mul, List.drop_succ_cons, List.drop_zero, List.take_succ_cons, List.take_zero])) | ((with_reducible refine gl ?_); first | refine ml hm rfl rfl rfl ?_ | refine mlw hm rfl rfl rfl ?_ | (refine mlr hm rfl rfl rfl ?_; try simp only [List.drop_succ_cons, List.drop_zero, List.take_succ_cons, List.take_zero])) | ((with_reducible refine gs ?_); (first | refine ms hm rfl rfl rfl rfl rfl ?_ | refine msw hm rfl rfl rfl rfl ?_ | refine msr hm rfl rfl rfl rfl ?_); clear hm; intro w hm; (try simp only [splice, List.set_cons_zero, List.set_cons_succ] at hm)) | ((with_reducible refine gb ?_); (first | refine mem_box hm rfl rfl rfl ?_ | refine mem_box1 hm rfl rfl rfl rfl ?_); clear hm; intro n w hm) | ((with_reducible refine ga ?_); refine mem_alloc hm rfl rfl ?_; clear hm; intro n w hm) | go_values | go_skip | go_guarded | go_step | go_upon | ((with_reducible refine bp ?_); go_back) | ((with_reducible refine up ?_); first | (simp only [Int.not_lt, Int.not_le] at *; go_simp) | (go_values <;> (try go_simp)) | (go_ite <;> go_prune <;> (try go_simp)) | (split <;> (first | (rename_i hx; exact (hx _ rfl).elim) | go_prune))))
        go_roundw
        case rel =>
          refine ⟨k + 1, by omega, by go_num, fun j h h' => ?_, hm⟩
          by_cases hj : j = k
          · subst hj; rw [hq]; exact HX.out
          · exact HA.out j (by omega) h'
        case measure => simp [intOf]; omega
      · have HX := Lib.hid hpx
        repeat' (first | (go_at_call 130; refine mem_call hm (HP.out _ _ hm) ?_; clear hm; intro w hm; simp only [HX.out]) | ((with_reducible refine gix ?_); first | refine mix rfl rfl rfl rfl ?_ | refine mixr rfl rfl rfl rfl ?_; (try simp only [Int.toNat_zero, Int.reduceToNat, Nat.reduceMul, Nat.zero_mul, Nat.one_mul, List.drop_succ_cons, List.drop_zero, List.take_succ_cons, List.take_zero])) | ((with_reducible refine gl ?_); first | refine ml hm rfl rfl rfl ?_ | refine mlw hm rfl rfl rfl ?_ | (refine mlr hm rfl rfl rfl ?_; try simp only [List.drop_succ_cons, List.drop_zero, List.take_succ_cons, List.take_zero])) | ((with_reducible refine gs ?_); (first | refine ms hm rfl rfl rfl rfl rfl ?_ | refine msw hm rfl rfl rfl rfl ?_ | refine msr hm rfl rfl rfl rfl ?_); clear hm; intro w hm; (try simp only [splice, List.set_cons_zero, List.set_cons_succ] at hm)) | ((with_reducible refine gb ?_); (first | refine mem_box hm rfl rfl rfl ?_ | refine mem_box1 hm rfl rfl rfl rfl ?_); clear hm; intro n w hm) | ((with_reducible refine ga ?_); refine mem_alloc hm rfl rfl ?_; clear hm; intro n w hm) | go_values | go_skip | go_guarded | go_step | go_upon | ((with_reducible refine bp ?_); go_back) | ((with_reducible refine up ?_); first | (simp only [Int.not_lt, Int.not_le] at *; go_simp) | (go_values <;> (try go_simp)) | (go_ite <;> go_prune <;> (try go_simp)) | (split <;> (first | (rename_i hx; exact (hx _ rfl).elim) | go_prune))))
        (try simp only [Exit.inBlock, Exit.then])
        (first | (refine ret1 rfl rfl (by (first | exact Res.tmp rfl | exact Res.atw hm rfl | exact Res.at hm rfl)) ?_) | (refine ret2 rfl rfl (by (first | exact Res.tmp rfl | exact Res.atw hm rfl | exact Res.at hm rfl)) (by (first | exact Res.tmp rfl | exact Res.atw hm rfl | exact Res.at hm rfl)) ?_) | (refine ret3 rfl rfl (by (first | exact Res.tmp rfl | exact Res.atw hm rfl | exact Res.at hm rfl)) (by (first | exact Res.tmp rfl | exact Res.atw hm rfl | exact Res.at hm rfl)) (by (first | exact Res.tmp rfl | exact Res.atw hm rfl | exact Res.at hm rfl)) ?_) | (refine ret4 rfl rfl (by (first | exact Res.tmp rfl | exact Res.atw hm rfl | exact Res.at hm rfl)) (by (first | exact Res.tmp rfl | exact Res.atw hm rfl | exact Res.at hm rfl)) (by (first | exact Res.tmp rfl | exact Res.atw hm rfl | exact Res.at hm rfl)) (by (first | exact Res.tmp rfl | exact Res.atw hm rfl | exact Res.at hm rfl)) ?_) | fail "ret")
        exact ⟨ret_iv (ixZ_here hk' (by rw [hq]; exact HX.out) (fun j h => HA.out j h _)).symm, hm⟩
    · have : k = len := by omega
      subst this
      repeat' (first  | ((with_reducible refine gix ?_); first | refine mix rfl rfl rfl rfl ?_ | refine mixr rfl rfl rfl rfl ?_; (try simp only [Int.toNat_zero, Int.reduceToNat, Nat.reduceMul, Nat.zero_mul, Nat.one_mul, List.drop_succ_cons, List.drop_zero, List.take_succ_cons, List.take_zero])) | ((with_reducible refine gl ?_); first | refine ml hm rfl rfl rfl ?_ | refine mlw hm rfl rfl rfl ?_ | (refine mlr hm rfl rfl rfl ?_; try simp only [List.drop_succ_cons, List.drop_zero, List.take_succ_cons, List.take_zero])) | ((with_reducible refine gs ?_); (first | refine ms hm rfl rfl rfl rfl rfl ?_ | refine msw hm rfl rfl rfl rfl ?_ | refine msr hm rfl rfl rfl rfl ?_); clear hm; intro w hm; (try simp only [splice, List.set_cons_zero, List.set_cons_succ] at hm)) | ((with_reducible refine gb ?_); (first | refine mem_box hm rfl rfl rfl ?_ | refine mem_box1 hm rfl rfl rfl rfl ?_); clear hm; intro n w hm) | ((with_reducible refine ga ?_); refine mem_alloc hm rfl rfl ?_; clear hm; intro n w hm) | go_values | go_skip | go_guarded | go_step | go_upon | ((with_reducible refine bp ?_); go_back) | ((with_reducible refine up ?_); first | (simp only [Int.not_lt, Int.not_le] at *; go_simp) | (go_values <;> (try go_simp)) | (go_ite <;> go_prune <;> (try go_simp)) | (split <;> (first | (rename_i hx; exact (hx _ rfl).elim) | go_prune))))
      (try simp only [Exit.inBlock, Exit.then])
      (first | (refine ret1 rfl rfl (by (first | exact Res.tmp rfl | exact Res.atw hm rfl | exact Res.at hm rfl)) ?_) | (refine ret2 rfl rfl (by (first | exact Res.tmp rfl | exact Res.atw hm rfl | exact Res.at hm rfl)) (by (first | exact Res.tmp rfl | exact Res.atw hm rfl | exact Res.at hm rfl)) ?_) | (refine ret3 rfl rfl (by (first | exact Res.tmp rfl | exact Res.atw hm rfl | exact Res.at hm rfl)) (by (first | exact Res.tmp rfl | exact Res.atw hm rfl | exact Res.at hm rfl)) (by (first | exact Res.tmp rfl | exact Res.atw hm rfl | exact Res.at hm rfl)) ?_) | (refine ret4 rfl rfl (by (first | exact Res.tmp rfl | exact Res.atw hm rfl | exact Res.at hm rfl)) (by (first | exact Res.tmp rfl | exact Res.atw hm rfl | exact Res.at hm rfl)) (by (first | exact Res.tmp rfl | exact Res.atw hm rfl | exact Res.at hm rfl)) (by (first | exact Res.tmp rfl | exact Res.atw hm rfl | exact Res.at hm rfl)) ?_) | fail "ret")
      exact ⟨ret_iv (ixZ_none (fun j h => HA.out j (by omega) h)).symm, hm⟩
set_option maxHeartbeats 1000000 in
theorem delF_tiles {w0 w : World} {σ : List Blk} {g len cap : Nat} {xs : List Int} {more : List Value}  (hm : Mem w0 w (⟨g, xs.map iv ++ more, 3⟩ :: σ)) (hf : Fit (xs.map iv ++ more) 1 len cap) (hx : xs.length = len) (hl : len ≤ 1000000) (p : Int → Bool)
    (hp : ∀ x wr, Mem w0 wr σ → Calls Try.prog 130 #[iv x] wr fun e w' => e = .returned (.bool (p x)) ∧ Below wr.heap.size wr w') :
    Calls Try.prog 68 #[.slice (some ⟨g, 0, none⟩) len cap, .func (.func 130) #[] #[]] w fun e w' => ∃ v, e = .returned v ∧ Sl w0 w' v 3 1 ((xs.filter fun x => !p x).map iv) σ := by
  go_enter Try.func68, Try.ntmps68
  have hI := fun (w : World) (hm : Mem w0 w (⟨g, xs.map iv ++ more, 3⟩ :: σ)) => ixF_tiles (g := g) (more := more) (cap := cap) hm hx hl p (fun x wr h => hp x wr (h.drop (List.sublist_cons_self _ _)))
  have hsz := hf.size
  have hle := hf.le
  have hmost := hf.most
  simp only [List.length_append, List.length_map] at hsz
  have HP := Lib.hid hp
  clear hp
  have HF := Lib.hid hf
  clear hf
  rcases ixZ_cases p xs with ⟨h1, h2⟩ | ⟨k, hk, h1, hpk, h2⟩
  · rw [h1] at hI
    have HI := Lib.hid hI
    have H2 := Lib.hid h2
    clear hI h1 h2
    repeat' (first | (go_at_call 100; refine mem_callM (HI.out _ hm) ?_; clear hm; intro w hm; (try simp only [])) | ((with_reducible refine gix ?_); first | refine mix rfl rfl rfl rfl ?_ | refine mixr rfl rfl rfl rfl ?_; (try simp only [Int.toNat_zero, Int.reduceToNat, Nat.reduceMul, Nat.zero_mul, Nat.one_mul, List.drop_succ_cons, List.drop_zero, List.take_succ_cons, List.take_zero])) | ((with_reducible refine gl ?_); first | refine ml hm rfl rfl rfl ?_ | refine mlw hm rfl rfl rfl ?_ | (refine mlr hm rfl rfl rfl ?_; try simp only [List.drop_succ_cons, List.drop_zero, List.take_succ_cons, List.take_zero])) | ((with_reducible refine gs ?_); (first | refine ms hm rfl rfl rfl rfl rfl ?_ | refine msw hm rfl rfl rfl rfl ?_ | refine msr hm rfl rfl rfl rfl ?_); clear hm; intro w hm; (try simp only [splice, List.set_cons_zero, List.set_cons_succ] at hm)) | ((with_reducible refine gb ?_); (first | refine mem_box hm rfl rfl rfl ?_ | refine mem_box1 hm rfl rfl rfl rfl ?_); clear hm; intro n w hm) | ((with_reducible refine ga ?_); refine mem_alloc hm rfl rfl ?_; clear hm; intro n w hm) | go_values | go_skip | go_guarded | go_step | go_upon | ((with_reducible refine bp ?_); go_back) | ((with_reducible refine up ?_); first | (simp only [Int.not_lt, Int.not_le] at *; go_simp) | (go_values <;> (try go_simp)) | (go_ite <;> go_prune <;> (try go_simp)) | (split <;> (first | (rename_i hx; exact (hx _ rfl).elim) | go_prune))))
    (try simp only [Exit.inBlock, Exit.then])
    (first | (refine ret1 rfl rfl (by (first | exact Res.tmp rfl | exact Res.atw hm rfl | exact Res.at hm rfl)) ?_) | (refine ret2 rfl rfl (by (first | exact Res.tmp rfl | exact Res.atw hm rfl | exact Res.at hm rfl)) (by (first | exact Res.tmp rfl | exact Res.atw hm rfl | exact Res.at hm rfl)) ?_) | (refine ret3 rfl rfl (by (first | exact Res.tmp rfl | exact Res.atw hm rfl | exact Res.at hm rfl)) (by (first | exact Res.tmp rfl | exact Res.atw hm rfl | exact Res.at hm rfl)) (by (first | exact Res.tmp rfl | exact Res.atw hm rfl | exact Res.at hm rfl)) ?_) | (refine ret4 rfl rfl (by (first | exact Res.tmp rfl | exact Res.atw hm rfl | exact Res.at hm rfl)) (by (first | exact Res.tmp rfl | exact Res.atw hm rfl | exact Res.at hm rfl)) (by (first | exact Res.tmp rfl | exact Res.atw hm rfl | exact Res.at hm rfl)) (by (first | exact Res.tmp rfl | exact Res.atw hm rfl | exact Res.at hm rfl)) ?_) | fail "ret")
    exact ⟨_, rfl, by rw [H2.out]; exact Sl.of hm HF.out (by simp [hx])⟩
  · rw [h1] at hI
    have HI := Lib.hid hI
    have H2 := Lib.hid h2
    have HK := Lib.hid hpk
    clear hI h1 h2 hpk
    repeat' (first | (go_at_call 100; refine mem_callM (HI.out _ hm) ?_; clear hm; intro w hm; (try simp only [])) | ((with_reducible refine gix ?_); first | refine mix rfl rfl rfl rfl ?_ | refine mixr rfl rfl rfl rfl ?_; (try simp only [Int.toNat_zero, Int.reduceToNat, Nat.reduceMul, Nat.zero_mul, Nat.one_mul, List.drop_succ_cons, List.drop_zero, List.take_succ_cons, List.take_zero])) | ((with_reducible refine gl ?_); first | refine ml hm rfl rfl rfl ?_ | refine mlw hm rfl rfl rfl ?_ | (refine mlr hm rfl rfl rfl ?_; try simp only [List.drop_succ_cons, List.drop_zero, List.take_succ_cons, List.take_zero])) | ((with_reducible refine gs ?_); (first | refine ms hm rfl rfl rfl rfl rfl ?_ | refine msw hm rfl rfl rfl rfl ?_ | refine msr hm rfl rfl rfl rfl ?_); clear hm; intro w hm; (try simp only [splice, List.set_cons_zero, List.set_cons_succ] at hm)) | ((with_reducible refine gb ?_); (first | refine mem_box hm rfl rfl rfl ?_ | refine mem_box1 hm rfl rfl rfl rfl ?_); clear hm; intro n w hm) | ((with_reducible refine ga ?_); refine mem_alloc hm rfl rfl ?_; clear hm; intro n w hm) | go_values | go_skip | go_guarded | go_step | go_upon | ((with_reducible refine bp ?_); go_back) | ((with_reducible refine up ?_); first | (simp only [Int.not_lt, Int.not_le] at *; go_simp) | (go_values <;> (try go_simp)) | (go_ite <;> go_prune <;> (try go_simp)) | (split <;> (first | (rename_i hx; exact (hx _ rfl).elim) | go_prune))))
    go_loopw [5, 6] (fun i j wr => ∃ (jn : Nat) (C : List Value) (kept : List Int), jn ≤ len ∧ kept = (xs.take jn).filter (fun x => !p x) ∧ kept.length < jn ∧ i = iv kept.length ∧ j = iv jn ∧ C.length = xs.length + more.length ∧ C.take kept.length = kept.map iv ∧ C.drop jn = (xs.drop jn).map iv ++ more ∧ Mem w0 wr (⟨g, C, 3⟩ :: σ)) (fun _ j _ => len - (intOf j).toNat)
    case atStart =>
      have e : (xs.take (k + 1)).filter (fun x => !p x) = xs.take k := by
        rw [filter_take _ _ _ hk, H2.out, HK.out]; simp
      refine ⟨k + 1, xs.map iv ++ more, xs.take k, by omega, e.symm, by simp; omega, by simp; omega, by go_num, by simp, ?_, ?_, hm⟩
      · rw [show (xs.take k).length = k from by (simp only [List.length_take]; omega), List.take_append_of_le_length (by simp; omega), List.map_take]
      · rw [List.drop_append_of_le_length (by simp; omega), List.map_drop]
    case round =>
      clear hm
      obtain ⟨jn, C, kept, hj, hkept, hlt, rfl, rfl, hC, hT, hD, hm⟩ := hrel
      have HKE := Lib.hid hkept
      have HT := Lib.hid hT
      clear hkept hT
      by_cases hjl : jn < len
      · have hj' : jn < xs.length := by omega
        obtain ⟨hv, hD'⟩ := drop_at hD hj'
        have hft := filter_take (fun x => !p x) xs jn hj'
        have HD := Lib.hid hD'
        clear hD hD'
        generalize hq : xs[jn] = x at hv hft
        clear hq
        cases hpx : p x
        all_goals
          have HX := Lib.hid hpx
          rw [hpx] at hft
          have HFT := Lib.hid hft
          clear hft hpx
          repeat' (first | (go_at_call 130; refine mem_call hm (HP.out _ _ (hm.drop (List.sublist_cons_self _ _))) ?_; clear hm; intro w hm; simp only [HX.out]) | ((with_reducible refine gix ?_); first | refine mix rfl rfl rfl rfl ?_ | refine mixr rfl rfl rfl rfl ?_; (try simp only [Int.toNat_zero, Int.reduceToNat, Nat.reduceMul, Nat.zero_mul, Nat.one_mul, List.drop_succ_cons, List.drop_zero, List.take_succ_cons, List.take_zero])) | ((with_reducible refine gl ?_); first | refine ml hm rfl rfl rfl ?_ | refine mlw hm rfl rfl rfl ?_ | (refine mlr hm rfl rfl rfl ?_; try simp only [List.drop_succ_cons, List.drop_zero, List.take_succ_cons, List.take_zero])) | ((with_reducible refine gs ?_); (first | refine ms hm rfl rfl rfl rfl rfl ?_ | refine msw hm rfl rfl rfl rfl ?_ | refine msr hm rfl rfl rfl rfl ?_); clear hm; intro w hm; (try simp only [splice, List.set_cons_zero, List.set_cons_succ] at hm)) | ((with_reducible refine gb ?_); (first | refine mem_box hm rfl rfl rfl ?_ | refine mem_box1 hm rfl rfl rfl rfl ?_); clear hm; intro n w hm) | ((with_reducible refine ga ?_); refine mem_alloc hm rfl rfl ?_; clear hm; intro n w hm) | go_values | go_skip | go_guarded | go_step | go_upon | ((with_reducible refine bp ?_); go_back) | ((with_reducible refine up ?_); first | (simp only [Int.not_lt, Int.not_le] at *; go_simp) | (go_values <;> (try go_simp)) | (go_ite <;> go_prune <;> (try go_simp)) | (split <;> (first | (rename_i hx; exact (hx _ rfl).elim) | go_prune))))
          go_roundw
        case rel =>
          (try (first | ((repeat apply Exists.intro); refine ⟨?_, rfl⟩) | (repeat refine ex_any ?_)))
          refine ⟨jn + 1, C.set kept.length (iv x), kept ++ [x], by omega, ?_, by simp <;> omega, by first | rfl | go_num | simp, by first | rfl | go_num | simp, by simpa using hC, ?_, ?_, hm⟩
          · rw [HFT.out, HKE.out]; rfl
          · rw [List.length_append]
            rw [show kept.length + [x].length = kept.length + 1 from rfl, take_set (by omega), HT.out]; simp
          · rw [drop_set (by omega), HD.out]
        case measure => simp [intOf]; omega
        case rel =>
          (try (first | ((repeat apply Exists.intro); refine ⟨?_, rfl⟩) | (repeat refine ex_any ?_)))
          refine ⟨jn + 1, C, kept, by omega, ?_, by omega, by go_num, by go_num, hC, HT.out, HD.out, hm⟩
          rw [HFT.out, HKE.out]; simp
        case measure => simp [intOf]; omega
      · have hjn : jn = len := by omega
        subst hjn
        have hkl : kept.length ≤ xs.length := by omega
        repeat' (first | ((with_reducible refine gcl ?_); refine mclr hm rfl rfl rfl ?_; clear hm; intro Z w hZ hm; (try simp only [List.set_cons_zero, List.set_cons_succ] at hm)) | ((with_reducible refine gix ?_); first | refine mix rfl rfl rfl rfl ?_ | refine mixr rfl rfl rfl rfl ?_; (try simp only [Int.toNat_zero, Int.reduceToNat, Nat.reduceMul, Nat.zero_mul, Nat.one_mul, List.drop_succ_cons, List.drop_zero, List.take_succ_cons, List.take_zero])) | ((with_reducible refine gl ?_); first | refine ml hm rfl rfl rfl ?_ | refine mlw hm rfl rfl rfl ?_ | (refine mlr hm rfl rfl rfl ?_; try simp only [List.drop_succ_cons, List.drop_zero, List.take_succ_cons, List.take_zero])) | ((with_reducible refine gs ?_); (first | refine ms hm rfl rfl rfl rfl rfl ?_ | refine msw hm rfl rfl rfl rfl ?_ | refine msr hm rfl rfl rfl rfl ?_); clear hm; intro w hm; (try simp only [splice, List.set_cons_zero, List.set_cons_succ] at hm)) | ((with_reducible refine gb ?_); (first | refine mem_box hm rfl rfl rfl ?_ | refine mem_box1 hm rfl rfl rfl rfl ?_); clear hm; intro n w hm) | ((with_reducible refine ga ?_); refine mem_alloc hm rfl rfl ?_; clear hm; intro n w hm) | go_values | go_skip | go_guarded | go_step | go_upon | ((with_reducible refine bp ?_); go_back) | ((with_reducible refine up ?_); first | (simp only [Int.not_lt, Int.not_le] at *; go_simp) | (go_values <;> (try go_simp)) | (go_ite <;> go_prune <;> (try go_simp)) | (split <;> (first | (rename_i hx; exact (hx _ rfl).elim) | go_prune))))
        (try simp only [Exit.inBlock, Exit.then])
        (first | (refine ret1 rfl rfl (by (first | exact Res.tmp rfl | exact Res.atw hm rfl | exact Res.at hm rfl)) ?_) | (refine ret2 rfl rfl (by (first | exact Res.tmp rfl | exact Res.atw hm rfl | exact Res.at hm rfl)) (by (first | exact Res.tmp rfl | exact Res.atw hm rfl | exact Res.at hm rfl)) ?_) | (refine ret3 rfl rfl (by (first | exact Res.tmp rfl | exact Res.atw hm rfl | exact Res.at hm rfl)) (by (first | exact Res.tmp rfl | exact Res.atw hm rfl | exact Res.at hm rfl)) (by (first | exact Res.tmp rfl | exact Res.atw hm rfl | exact Res.at hm rfl)) ?_) | (refine ret4 rfl rfl (by (first | exact Res.tmp rfl | exact Res.atw hm rfl | exact Res.at hm rfl)) (by (first | exact Res.tmp rfl | exact Res.atw hm rfl | exact Res.at hm rfl)) (by (first | exact Res.tmp rfl | exact Res.atw hm rfl | exact Res.at hm rfl)) (by (first | exact Res.tmp rfl | exact Res.atw hm rfl | exact Res.at hm rfl)) ?_) | fail "ret")
        refine ⟨_, rfl, ?_⟩
        have hke := HKE.out
        rw [List.take_of_length_le (by omega)] at hke
        rw [← hke]
        have hS : splice C kept.length Z = kept.map iv ++ (splice C kept.length Z).drop kept.length := by
          conv => lhs; rw [← List.take_append_drop kept.length (splice C kept.length Z)]
          congr 1
          rw [← HT.out]
          apply List.ext_getElem?
          intro q
          by_cases hq : q < kept.length
          · rw [List.getElem?_take_of_lt hq, List.getElem?_take_of_lt hq, splice_get _ _ _ _ (by omega), if_neg (by omega)]
          · rw [List.getElem?_eq_none (by simp; omega), List.getElem?_eq_none (by simp; omega)]
        rw [hS] at hm
        refine Sl.of hm ⟨by omega, hmost, ?_⟩ (by simp)
        rw [← hS]
        simp
        omega
theorem impl_tiles1 (x : Int) (w : World) : Calls Try.prog 130 #[iv x] w fun e w' => e = .returned (.bool (x == 0)) ∧ Below w.heap.size w w' := by
  go_enter Try.func130, Try.ntmps130
  have hm := Mem.start w
  repeat' (first  | ((with_reducible refine gix ?_); first | refine mix rfl rfl rfl rfl ?_ | refine mixr rfl rfl rfl rfl ?_; (try simp only [Int.toNat_zero, Int.reduceToNat, Nat.reduceMul, Nat.zero_mul, Nat.one_mul, List.drop_succ_cons, List.drop_zero, List.take_succ_cons, List.take_zero])) | ((with_reducible refine gl ?_); first | refine ml hm rfl rfl rfl ?_ | refine mlw hm rfl rfl rfl ?_ | (refine mlr hm rfl rfl rfl ?_; try simp only [List.drop_succ_cons, List.drop_zero, List.take_succ_cons, List.take_zero])) | ((with_reducible refine gs ?_); (first | refine ms hm rfl rfl rfl rfl rfl ?_ | refine msw hm rfl rfl rfl rfl ?_ | refine msr hm rfl rfl rfl rfl ?_); clear hm; intro w hm; (try simp only [splice, List.set_cons_zero, List.set_cons_succ] at hm)) | ((with_reducible refine gb ?_); (first | refine mem_box hm rfl rfl rfl ?_ | refine mem_box1 hm rfl rfl rfl rfl ?_); clear hm; intro n w hm) | ((with_reducible refine ga ?_); refine mem_alloc hm rfl rfl ?_; clear hm; intro n w hm) | go_values | go_skip | go_guarded | go_step | go_upon | ((with_reducible refine bp ?_); go_back) | ((with_reducible refine up ?_); first | (simp only [Int.not_lt, Int.not_le] at *; go_simp) | (go_values <;> (try go_simp)) | (go_ite <;> go_prune <;> (try go_simp)) | (split <;> (first | (rename_i hx; exact (hx _ rfl).elim) | go_prune))))
  (try simp only [Exit.inBlock, Exit.then])
  (first | (refine ret1 rfl rfl (by (first | exact Res.tmp rfl | exact Res.atw hm rfl | exact Res.at hm rfl)) ?_) | (refine ret2 rfl rfl (by (first | exact Res.tmp rfl | exact Res.atw hm rfl | exact Res.at hm rfl)) (by (first | exact Res.tmp rfl | exact Res.atw hm rfl | exact Res.at hm rfl)) ?_) | (refine ret3 rfl rfl (by (first | exact Res.tmp rfl | exact Res.atw hm rfl | exact Res.at hm rfl)) (by (first | exact Res.tmp rfl | exact Res.atw hm rfl | exact Res.at hm rfl)) (by (first | exact Res.tmp rfl | exact Res.atw hm rfl | exact Res.at hm rfl)) ?_) | (refine ret4 rfl rfl (by (first | exact Res.tmp rfl | exact Res.atw hm rfl | exact Res.at hm rfl)) (by (first | exact Res.tmp rfl | exact Res.atw hm rfl | exact Res.at hm rfl)) (by (first | exact Res.tmp rfl | exact Res.atw hm rfl | exact Res.at hm rfl)) (by (first | exact Res.tmp rfl | exact Res.atw hm rfl | exact Res.at hm rfl)) ?_) | fail "ret")
  exact ⟨by simp, hm.below⟩
theorem impl_tiles (r : List Int) (hl : r.length = 4) (w : World) : Calls Try.prog 113 #[.agg (nums r)] w fun e w' => ∃ v, e = .returned v ∧ Sl w w' v 3 1 ((tilesL r).map iv) [] := by
  have hf0 : Fit [] 1 0 0 := Fit.none
  have q0 : ∀ (w : World) (a : Option Addr) (n c n' c' : Nat), (binOp .eql 34 (.slice a n c) (.slice none n' c')).run Try.prog w = .ok (.bool a.isNone) w := fun w a n c n' c' => Lib.run_eql_slice_nil w _ _ a n c n' c' Try.underlying34
  go_enter Try.func113, Try.ntmps113
  have hm := Mem.start w
  repeat' (first | (go_at_call 129; go_in) | ((with_reducible refine gbs ?_); refine mbs hm rfl rfl rfl ?_; clear hm; intro n w hm; (try simp only [List.flatMap_cons, List.flatMap_nil, Value.cells, List.append_nil, List.cons_append, List.nil_append] at hm)) | ((with_reducible refine gap ?_); refine map_ hm rfl rfl rfl rfl hf0 ?_; clear hm; intro g cap more w hm hf; simp only [Nat.zero_mul, List.take_zero, List.nil_append] at hm hf; (try simp only [List.eraseIdx_cons_succ, List.eraseIdx_cons_zero, Nat.zero_add, Nat.reduceAdd, Nat.reduceSub, Nat.reduceLT, if_true, if_false] at hm)) | (go_at_call 68; refine mem_callS (delF_tiles hm hf hl (by omega) (fun x => x == 0) (fun x wr _ => impl_tiles1 x wr)) ?_; clear hm; intro g more len cap w hm hf hx; (try simp only [])) | ((with_reducible refine gix ?_); first | refine mix rfl rfl rfl rfl ?_ | refine mixr rfl rfl rfl rfl ?_; (try simp only [Int.toNat_zero, Int.reduceToNat, Nat.reduceMul, Nat.zero_mul, Nat.one_mul, List.drop_succ_cons, List.drop_zero, List.take_succ_cons, List.take_zero])) | ((with_reducible refine gl ?_); first | refine ml hm rfl rfl rfl ?_ | refine mlw hm rfl rfl rfl ?_ | (refine mlr hm rfl rfl rfl ?_; try simp only [List.drop_succ_cons, List.drop_zero, List.take_succ_cons, List.take_zero])) | ((with_reducible refine gs ?_); (first | refine ms hm rfl rfl rfl rfl rfl ?_ | refine msw hm rfl rfl rfl rfl ?_ | refine msr hm rfl rfl rfl rfl ?_); clear hm; intro w hm; (try simp only [splice, List.set_cons_zero, List.set_cons_succ] at hm)) | ((with_reducible refine gb ?_); (first | refine mem_box hm rfl rfl rfl ?_ | refine mem_box1 hm rfl rfl rfl rfl ?_); clear hm; intro n w hm) | ((with_reducible refine ga ?_); refine mem_alloc hm rfl rfl ?_; clear hm; intro n w hm) | go_values | go_skip | go_guarded | go_step | go_upon | ((with_reducible refine bp ?_); go_back) | ((with_reducible refine up ?_); first | (simp only [Int.not_lt, Int.not_le] at *; go_simp) | (go_values <;> (try go_simp)) | (go_ite <;> go_prune <;> (try go_simp)) | (split <;> (first | (rename_i hx; exact (hx _ rfl).elim) | go_prune))))
  (try simp only [Exit.inBlock, Exit.then])
  (first | (refine ret1 rfl rfl (by (first | exact Res.tmp rfl | exact Res.atw hm rfl | exact Res.at hm rfl)) ?_) | (refine ret2 rfl rfl (by (first | exact Res.tmp rfl | exact Res.atw hm rfl | exact Res.at hm rfl)) (by (first | exact Res.tmp rfl | exact Res.atw hm rfl | exact Res.at hm rfl)) ?_) | (refine ret3 rfl rfl (by (first | exact Res.tmp rfl | exact Res.atw hm rfl | exact Res.at hm rfl)) (by (first | exact Res.tmp rfl | exact Res.atw hm rfl | exact Res.at hm rfl)) (by (first | exact Res.tmp rfl | exact Res.atw hm rfl | exact Res.at hm rfl)) ?_) | (refine ret4 rfl rfl (by (first | exact Res.tmp rfl | exact Res.atw hm rfl | exact Res.at hm rfl)) (by (first | exact Res.tmp rfl | exact Res.atw hm rfl | exact Res.at hm rfl)) (by (first | exact Res.tmp rfl | exact Res.atw hm rfl | exact Res.at hm rfl)) (by (first | exact Res.tmp rfl | exact Res.atw hm rfl | exact Res.at hm rfl)) ?_) | fail "ret")
  have e : (r.filter fun x => !(x == 0)) = tilesL r := rfl
  rw [e] at hm hf hx
  exact ⟨_, rfl, (Sl.of hm hf hx).drop (List.nil_sublist _)⟩
end Go.Proofs.Ytlhchjjegaflhaa
