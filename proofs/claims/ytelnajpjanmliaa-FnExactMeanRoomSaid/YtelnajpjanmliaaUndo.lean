/-
  Walks of UndoSteps.
-/
import Derived.Test.YtelnajpjanmliaaReplay
import Derived.Test.YtelnajpjanmliaaAny
import Derived.Deep.AppendLies
set_option linter.unusedVariables false
set_option linter.unusedSimpArgs false
namespace Go.Proofs.Ytelnajpjanmliaa
open Go.RowKit Slm
section
variable {P : Program} {ops : Array Oper} {rest : List Oper} {o : Oper} {a : Act} {w0 w : World} {σ : List Blk} {Q : Exit → Act → World → Prop} {n i : Nat} {c : List Value} {t : TypeId}
/-- 'append(xs, ys...)', ys a part of a block that stays. -/
theorem mapt {T e t2 : TypeId} {s b len cap m cc n2 j off : Nat} {sx x : Operand} {c2 ys : List Value} [hT : IsSlice P T e s b] [hA : At σ n c e i] [hB : At σ n2 c2 t2 j] (hm : Mem w0 w σ)
    (ho : o.op = .call { callee := .builtin .append, args := #[sx, x], argTypes := #[T, T] }) (hw : Region.wanted o (yielded ops a.tmps) = true)
    (hs : ev a sx = some (.slice (some ⟨n, 0, none⟩) len cap)) (hx : ev a x = some (.slice (some ⟨n2, off, none⟩) m cc)) (hf : Fit c s len cap) (hy : (c2.drop off).take (m * s) = ys)
    (k : ∀ g cap' more w', Mem w0 w' (⟨g, c.take (len * s) ++ ys ++ more, e⟩ :: σ.eraseIdx i) → Fit (c.take (len * s) ++ ys ++ more) s (len + m) cap' → wpList P ops Q rest (a.put o.dst (.slice (some ⟨g, 0, none⟩) (len + m) cap')) w')
    (hn : off + m * s ≤ c2.length := by first | decide | (simp; done) | (simp; omega) | omega) (h1 : ∀ u ∈ ys, u.oneCell' = true := by first | assumption | (simp [Value.oneCell']; done)) (h0 : 0 < m := by first | decide | omega) (h63 : len + m ≤ maxLen := by first | (unfold maxLen; omega) | omega) (hb : (len + m) * b ≤ 140737488355328 := by omega) : wpList P ops Q (o :: rest) a w := by
  subst hy
  refine wpList_step fun K hK => ?_
  rw [if_pos hw]
  obtain ⟨ti, z, hi, hz, hsz, hby, hzs⟩ := hT.elem
  have hown : w.ownsRow w0.heap.size e s (.slice (some ⟨n, 0, none⟩) len cap) len (c.take (len * s)) := by
    have hle : len * s ≤ cap * s := Nat.mul_le_mul_right _ hf.le
    refine ⟨by rw [List.length_take, hf.size]; omega, .inr ⟨n, cap, c.toArray, rfl, hm.ge (.of hA.out), hm.get (.of hA.out), hf.le, hf.most, by simpa using hf.size, by simp⟩⟩
  obtain ⟨g, cap', w', hr, hown', hg, hgr, _⟩ := run_append_lies (P := P) (w := w) T o.type w0.heap.size e ti z s b hT.out hi hz hsz hby hzs hT.pos _ len _ hown ⟨n2, off, none⟩ m cc ((c2.drop off).take (m * s)) (by simp; omega)
    (fun jj u hu => by rw [Addr.add_mid]; exact hm.range hB.out off (m * s) jj u hu) h1 h0 h63 hb hm.below.size w.heap.size rfl
  unfold Oper.wp execOp
  simp only [ho, resolve, invoke, builtin, Sem.run_bind, Sem.run_pure, Result.andThen_ok, List.map_toArray, List.map_cons, List.map_nil, ev_eval hs, ev_eval hx, hr]
  obtain ⟨hlen, hn' | ⟨g', cap2, cur, e1, _, hh, h4, h5, h6, h7⟩⟩ := hown'
  · exact absurd hn'.1 (by simp)
  simp only [Value.slice.injEq, Option.some.injEq, Addr.mk.injEq, and_true, true_and] at e1
  obtain ⟨rfl, rfl⟩ := e1
  have hcur : cur.toList = c.take (len * s) ++ (c2.drop off).take (m * s) ++ cur.toList.drop ((len + m) * s) := by rw [← h7, List.take_append_drop]
  refine hK _ _ (k g cap' (cur.toList.drop ((len + m) * s)) w' ?_ ⟨h4, h5, by rw [← hcur]; simpa using h6⟩)
  refine mem_grown hm (List.eraseIdx_sublist _ _) (row := some n) (fun b hb e => ?_) (fun k hk => by cases hk; exact hm.ge (.of hA.out)) hg hgr (by rw [← hcur]; simpa using hh)
  have := erase_ne hA.out hm.apart b hb
  exact this (by simpa using e)
theorem run_slice_nil {T e : TypeId} {s b : Nat} [hT : IsSlice P T e s b] (ad : Addr) (n c : Nat) (w : World) : (binOp .eql T (.slice (some ad) n c) (.slice none 0 0)).run P w = .ok (.bool false) w := by
  have h : ∀ d, (Op.equalIn (d + 1) T (.slice (some ad) n c) (.slice none 0 0)).run P w = .ok false w := by
    intro d
    simp [Op.equalIn, run_underlying hT.out]
  have h2 : (Op.equal T (.slice (some ad) n c) (.slice none 0 0)).run P w = .ok false w := h 9999
  simp only [binOp]
  simp [h2]
theorem gnq {d : Option Tmp} {op : BinOp} {T T' ty : TypeId} {x y : Operand} {ps : String} {af : Array Edge} {gd : Option (Nat × Bool)} (h : wpList P ops Q (⟨d, .binOp op T x y T', ty, ps, af, gd⟩ :: rest) a w) : wpList P ops Q (⟨d, .binOp op T x y T', ty, ps, af, gd⟩ :: rest) a w := h
/-- 's == nil', where s is a slice of the call's own. -/
theorem mnil {T T' e : TypeId} {s b : Nat} [hT : IsSlice P T e s b] {x y : Operand} {ad : Addr} {n c : Nat} (ho : o.op = .binOp .eql T x y T') (hw : Region.wanted o (yielded ops a.tmps) = true) (hx : ev a x = some (.slice (some ad) n c)) (hy : ev a y = some (.slice none 0 0))
    (k : wpList P ops Q rest (a.put o.dst (.bool false)) w) : wpList P ops Q (o :: rest) a w := by
  refine wpList_step fun K hK => ?_
  rw [if_pos hw]
  unfold Oper.wp execOp
  have hg : (eqGuard .eql T x y (.slice (some ad) n c) (.slice none 0 0)).run P w = .ok () w := by simp [eqGuard]
  simp only [ho, ev_eval hx, ev_eval hy, Sem.run_bind, hg, run_slice_nil (P := P) (T := T) ad n c w, Result.andThen_ok, Sem.run_pure]
  exact hK _ _ k
end
theorem take_stp (S : List Stp) (n : Nat) (more : List Value) (h : n ≤ S.length) : (((S.flatMap stI).map iv ++ more).drop 0).take (n * 4) = (((S.take n).flatMap stI).map iv) := by
  have h1 := fm_len (s := 4) S (fun a _ => stI_len a)
  have h2 : n * 4 ≤ S.length * 4 := Nat.mul_le_mul_right _ h
  rw [List.drop_zero, List.take_append_of_le_length (by rw [List.length_map]; omega), ← List.map_take, fm_take S n (fun a _ => stI_len a)]
theorem oneCells (S : List Stp) (more : List Value) (hm : ∀ u ∈ more, u.oneCell' = true) : ∀ u ∈ (S.flatMap stI).map iv ++ more, u.oneCell' = true := by
  intro u hu
  rcases List.mem_append.1 hu with h | h
  · obtain ⟨x, _, rfl⟩ := List.mem_map.1 h; rfl
  · exact hm u h
theorem valR_len {b : List Int} {S : List Stp} (h : valR b S = true) : S.length ≤ 40 := by
  simp only [valR, Bool.and_eq_true, decide_eq_true_eq] at h
  exact h.2.1
/-- What UndoSteps tells. -/
def undoQ (b : List Int) (S : List Stp) (k : Int) : Bool := valR b S && inB k 0 S.length
end Go.Proofs.Ytelnajpjanmliaa
