/-
  Blocks chosen by their places; the end of a joined region with two new blocks.
-/
import Derived.Test.YtelnajpjanmliaaJoin
set_option linter.unusedVariables false
set_option linter.unusedSimpArgs false
namespace Go.Proofs.Ytelnajpjanmliaa
open Go.RowKit Slm
def pickB (σ : List Blk) : List Nat → List Blk
  | [] => []
  | i :: r => match σ[i]? with
    | some b => b :: pickB σ r
    | none => pickB σ r
theorem mem_pickB {σ : List Blk} {x : Blk} : ∀ {ix : List Nat}, x ∈ pickB σ ix → ∃ i ∈ ix, σ[i]? = some x
  | [], h => by cases h
  | i :: r, h => by
    unfold pickB at h
    split at h
    · rename_i b hb
      rcases List.mem_cons.1 h with rfl | h
      · exact ⟨i, by simp, hb⟩
      · obtain ⟨j, hj, e⟩ := mem_pickB h
        exact ⟨j, by simp [hj], e⟩
    · obtain ⟨j, hj, e⟩ := mem_pickB h
      exact ⟨j, by simp [hj], e⟩
theorem pickB_apart {σ : List Blk} (h : σ.Pairwise fun a b => a.n ≠ b.n) : ∀ {ix : List Nat}, ix.Nodup → (pickB σ ix).Pairwise fun a b => a.n ≠ b.n
  | [], _ => List.Pairwise.nil
  | i :: r, hn => by
    have hr := pickB_apart h (List.nodup_cons.1 hn).2
    unfold pickB
    split
    · rename_i b hb
      refine List.pairwise_cons.2 ⟨fun x hx => ?_, hr⟩
      obtain ⟨j, hj, e⟩ := mem_pickB hx
      have hij : i ≠ j := fun e => (List.nodup_cons.1 hn).1 (e ▸ hj)
      obtain ⟨hi', hb'⟩ := List.getElem?_eq_some_iff.1 hb
      obtain ⟨hj', hx'⟩ := List.getElem?_eq_some_iff.1 e
      have := List.pairwise_iff_getElem.1 h
      rw [← hb', ← hx']
      rcases Nat.lt_or_gt_of_ne hij with hlt | hlt
      · exact this i j hi' hj' hlt
      · exact fun e => this j i hj' hi' hlt e.symm
    · exact hr
theorem Mem.pick {w0 w : World} {σ : List Blk} (hm : Mem w0 w σ) (ix : List Nat) (hn : ix.Nodup) : Mem w0 w (pickB σ ix) :=
  ⟨hm.below, fun b hb => by obtain ⟨i, -, e⟩ := mem_pickB hb; exact hm.own b (List.mem_of_getElem? e), fun b hb => by obtain ⟨i, -, e⟩ := mem_pickB hb; exact hm.lies b (List.mem_of_getElem? e), pickB_apart hm.apart hn⟩
theorem jend12 {w0 w : World} {a : Act} {F : Nat → Nat → Nat → Nat → Nat → Act} {C : Nat → Nat → Nat → Nat → Nat → List Value → List Blk} {n1 n2 : Nat} {c1 c2 : List Value} {t1 t2 : TypeId} {σ : List Blk} (hm : Mem w0 w (⟨n1, c1, t1⟩ :: ⟨n2, c2, t2⟩ :: σ)) (x y z : Nat) (m : List Value) (he : a = F n1 n2 x y z) (h : Mem w0 w (C n1 n2 x y z m)) : JoinR w0 F C .normal a w := jend n1 n2 x y z m he h
end Go.Proofs.Ytelnajpjanmliaa
