/-
  Walks of the library's searches and deletions by a predicate, over lists of numbers and lists of pairs that the call itself has made. No condition of their own.
-/
import Derived.Test.YtjmolkamaeonmaaDoorCommon
import Derived.Test.YtjmolkamaeonmaaDoorFam
import Derived.Test.YtjmolkamaeonmaaDoorRowMath
import Derived.Lib.SliceRun
set_option linter.unusedVariables false
set_option linter.unusedSimpArgs false
namespace Go.Proofs.YtjmolkamaeonmaaDoor
open Go.RowKit Slm
/-! ### rules -/
section
variable {P : Program} {ops : Array Oper} {rest : List Oper} {o : Oper} {a : Act} {w0 w : World} {σ τ : List Blk} {Q : Exit → Act → World → Prop} {n i : Nat} {c : List Value} {t : TypeId}
theorem mem_callM {f : FuncId} {args : Array Value} {v : Value} {R : Ending → World → Prop} (h : Calls P f args w fun e w' => e = .returned v ∧ Mem w0 w' τ)
    (k : ∀ w', Mem w0 w' τ → R (.returned v) w') : Calls P f args w R :=
  h.mono fun e w' ⟨he, hb⟩ => by subst he; exact k w' hb
theorem gcl {d : Option Tmp} {ty : TypeId} {xs : Array Operand} {ts : Array TypeId} {po : String} {af : Array Edge} {gd : Option (Nat × Bool)} (k : wpList P ops Q (⟨d, .call ⟨.builtin .clear, xs, ts⟩, ty, po, af, gd⟩ :: rest) a w) : wpList P ops Q (⟨d, .call ⟨.builtin .clear, xs, ts⟩, ty, po, af, gd⟩ :: rest) a w := k
/-- 'clear(xs)' of a slice of the call's own: its cells are some cells. -/
theorem mclr {T e : TypeId} {s b off m cap : Nat} {x : Operand} {zs : List Value} [hT : IsSlice P T e s b] [hz : Zero P e zs] [hA : At σ n c t i] (hm : Mem w0 w σ)
    (ho : o.op = .call { callee := .builtin .clear, args := #[x], argTypes := #[T] }) (hw : Region.wanted o (yielded ops a.tmps) = true) (hx : ev a x = some (.slice (some ⟨n, off, none⟩) m cap))
    (k : ∀ Z w', Z.length = m * s → Mem w0 w' (σ.set i ⟨n, splice c off Z, t⟩) → wpList P ops Q rest (a.put o.dst (.tuple #[])) w')
    (hl : off + m * s ≤ c.length := by first | decide | (simp; done) | (simp; omega) | omega) (h0 : 0 < m := by first | decide | omega) (h1 : zs.all (·.oneCell') = true := by first | rfl | (simp [Value.oneCell']; done)) : wpList P ops Q (o :: rest) a w := by
  refine wpList_step fun K hK => ?_
  rw [if_pos hw]
  obtain ⟨ti, z, hi, hz0, hsz, hby, hzs⟩ := hT.elem
  obtain ⟨v, hv, hc⟩ := hz.out
  have hvz : v = z := by simpa [hi, hz0] using hv.symm
  subst hvz
  have hr0 : (zeroValue e).run P w = .ok v w := by simp [zeroValue, typeInfo, hi, hz0, go_sem]
  generalize hZ : (Builtin.zeroCells v.cells m).toList = Z
  have hZl : Z.length = m * s := by rw [← hZ]; simp [Builtin.zeroCells, hzs]
  have hst := run_storeCells_cells (P := P) n off Z 0 w (fun j hj => by rw [hm.cell (.of hA.out), List.getElem?_eq_getElem (by omega)]; rfl) (fun j hj => hm.frozen (.of hA.out) _) (by
    intro u hu
    rw [← hZ] at hu
    simp only [Builtin.zeroCells, Array.mem_toList_iff, Array.mem_map, Array.mem_range] at hu
    obtain ⟨q, hq, rfl⟩ := hu
    have hq' : q % v.cells.size < v.cells.size := Nat.mod_lt _ (by rw [hzs]; exact hT.pos)
    rw [List.all_eq_true] at h1
    refine h1 _ ?_
    rw [← hc, getElem!_pos v.cells _ hq']
    exact Array.getElem_mem_toList hq')
  simp only [Nat.add_zero] at hst
  obtain ⟨m, rfl⟩ : ∃ m', m = m' + 1 := ⟨m - 1, by omega⟩
  have hr : ∀ ty, (Builtin.clear_ #[T] ty #[.slice (some ⟨n, off, none⟩) (m + 1) cap]).run P w = .ok (.tuple #[]) (w.setCells n off Z) := by
    intro ty
    unfold Builtin.clear_
    simp only [List.getElem?_toArray, List.getElem?_cons_zero, Sem.run_bind, run_underlying hT.out, Result.andThen_ok, hr0, hZ, hst, Sem.run_pure]
  unfold Oper.wp execOp
  simp only [ho, resolve, invoke, builtin, Sem.run_bind, Sem.run_pure, Result.andThen_ok, List.map_toArray, List.map_cons, List.map_nil, ev_eval hx, hr]
  exact hK _ _ (k Z _ hZl (hm.sets (.of hA.out) (.of_set hA.out)))
theorem Mem.lift {w' : World} (hm : Mem w0 w σ) (h : Mem w w' τ) : Mem w0 w' (τ ++ σ) := by
  have h1 := hm.next h.below
  refine ⟨h1.below, fun b hb => ?_, fun b hb => ?_, List.pairwise_append.2 ⟨h.apart, h1.apart, fun x hx y hy e => ?_⟩⟩
  · rcases List.mem_append.1 hb with hb | hb
    · have := h.own b hb
      have := hm.below.size
      omega
    · exact h1.own b hb
  · rcases List.mem_append.1 hb with hb | hb
    · exact h.lies b hb
    · exact h1.lies b hb
  · have := h.own x hx
    have := (Array.getElem?_eq_some_iff.1 (hm.lies y hy)).1
    omega
theorem Sl.lift {w' : World} {v : Value} {e : TypeId} {s : Nat} {xs : List Value} (hm : Mem w0 w σ) (h : Sl w w' v e s xs τ) : Sl w0 w' v e s xs (τ ++ σ) := by
  obtain ⟨g, more, len, cap, rfl, h1, h2, h3⟩ := h
  exact ⟨g, more, len, cap, rfl, hm.lift h1, h2, h3⟩
theorem Sl.drop {v : Value} {e : TypeId} {s : Nat} {xs : List Value} (h : Sl w0 w v e s xs σ) (hs : τ.Sublist σ) : Sl w0 w v e s xs τ := by
  obtain ⟨g, more, len, cap, rfl, h1, h2, h3⟩ := h
  exact ⟨g, more, len, cap, rfl, h1.drop (hs.cons_cons _), h2, h3⟩
/-- A callee that returns a slice of its own, or of the caller's. -/
theorem mem_callS {f : FuncId} {args : Array Value} {R : Ending → World → Prop} {T : TypeId} {s : Nat} {xs : List Value} (h : Calls P f args w fun e w' => ∃ v, e = .returned v ∧ Sl w0 w' v T s xs σ)
    (k : ∀ g more len cap w', Mem w0 w' (⟨g, xs ++ more, T⟩ :: σ) → Fit (xs ++ more) s len cap → xs.length = len * s → R (.returned (.slice (some ⟨g, 0, none⟩) len cap)) w') : Calls P f args w R :=
  h.mono fun e w' ⟨v, he, g, more, len, cap, hv, h1, h2, h3⟩ => by subst he; subst hv; exact k g more len cap w' h1 h2 h3
theorem mem_callN {f : FuncId} {args : Array Value} {R : Ending → World → Prop} {T : TypeId} {s : Nat} {xs : List Value} (hm : Mem w0 w σ) (h : Calls P f args w fun e w' => ∃ v, e = .returned v ∧ Sl w w' v T s xs [])
    (k : ∀ g more len cap w', Mem w0 w' (⟨g, xs ++ more, T⟩ :: σ) → Fit (xs ++ more) s len cap → xs.length = len * s → R (.returned (.slice (some ⟨g, 0, none⟩) len cap)) w') : Calls P f args w R :=
  mem_callS (h.mono fun e w' ⟨v, he, hs⟩ => ⟨v, he, by simpa using Sl.lift hm hs⟩) k
theorem Fit.none {s : Nat} : Fit [] s 0 0 := ⟨Nat.le_refl _, by unfold maxLen; omega, by simp⟩
end
theorem nums_map (l : List Int) : nums l = (l.map iv).toArray := rfl
/-- The place of the first of which p holds, -1 if there is none. -/
def ixZ {α : Type} (p : α → Bool) (xs : List α) : Int := if xs.findIdx p < xs.length then (xs.findIdx p : Int) else -1
theorem ixZ_here {α : Type} {p : α → Bool} {xs : List α} {k : Nat} (hk : k < xs.length) (hp : p xs[k] = true) (hall : ∀ j (h : j < k), p (xs[j]'(by omega)) = false) : ixZ p xs = k := by
  have : xs.findIdx p = k := (List.findIdx_eq hk).2 ⟨hp, hall⟩
  unfold ixZ
  rw [this, if_pos hk]
theorem ixZ_none {α : Type} {p : α → Bool} {xs : List α} (hall : ∀ j (h : j < xs.length), p xs[j] = false) : ixZ p xs = -1 := by
  unfold ixZ
  rw [if_neg]
  intro h
  have h2 := List.findIdx_getElem (w := h)
  rw [hall _ h] at h2
  cases h2
theorem drop_at {C : List Value} {α : Type} {enc : α → Value} {xs : List α} {more : List Value} {j : Nat} (h : C.drop j = (xs.drop j).map enc ++ more) (hj : j < xs.length) : C[j]? = some (enc xs[j]) ∧ C.drop (j + 1) = (xs.drop (j + 1)).map enc ++ more := by
  have e : xs.drop j = xs[j] :: xs.drop (j + 1) := List.drop_eq_getElem_cons hj
  rw [e, List.map_cons, List.cons_append] at h
  have h1 : (C.drop j)[0]? = some (enc xs[j]) := by rw [h]; rfl
  refine ⟨by simpa using h1, ?_⟩
  have h2 : (C.drop j).drop 1 = (xs.drop (j + 1)).map enc ++ more := by rw [h]; rfl
  rw [List.drop_drop] at h2
  exact h2
theorem drop_set {C : List Value} {i j : Nat} {v : Value} (h : i < j) : (C.set i v).drop j = C.drop j := by
  rw [List.drop_set, if_pos h]
theorem take_set {C : List Value} {i : Nat} {v : Value} (h : i < C.length) : (C.set i v).take (i + 1) = C.take i ++ [v] := by
  rw [List.take_succ_eq_append_getElem (by simpa using h)]
  simp [List.take_set_of_le]
theorem filter_take {α : Type} (q : α → Bool) (xs : List α) (j : Nat) (h : j < xs.length) : (xs.take (j + 1)).filter q = (xs.take j).filter q ++ (if q xs[j] then [xs[j]] else []) := by
  rw [List.take_succ_eq_append_getElem h, List.filter_append]
  congr 1
  simp [List.filter_cons]
theorem ixZ_cases {α : Type} (p : α → Bool) (xs : List α) : (ixZ p xs = -1 ∧ xs.filter (fun x => !p x) = xs) ∨ ∃ (k : Nat) (h : k < xs.length), ixZ p xs = k ∧ p xs[k] = true ∧ (xs.take k).filter (fun x => !p x) = xs.take k := by
  by_cases h : xs.findIdx p < xs.length
  · refine .inr ⟨_, h, by unfold ixZ; rw [if_pos h], List.findIdx_getElem (w := h), ?_⟩
    rw [List.filter_eq_self]
    intro x hx
    obtain ⟨j, hj, rfl⟩ := List.getElem_of_mem hx
    have hj' : j < xs.findIdx p := by simp at hj; omega
    have := List.not_of_lt_findIdx hj'
    simpa using this
  · refine .inl ⟨by unfold ixZ; rw [if_neg h], ?_⟩
    rw [List.filter_eq_self]
    intro x hx
    have : xs.findIdx p = xs.length := by have := List.findIdx_le_length (xs := xs) (p := p); omega
    have := List.findIdx_eq_length.1 this x hx
    simpa using this
end Go.Proofs.YtjmolkamaeonmaaDoor
