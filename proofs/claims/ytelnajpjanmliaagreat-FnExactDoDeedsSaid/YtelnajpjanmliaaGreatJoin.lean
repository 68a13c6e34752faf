/-
  A region that draws its order, walked in all orders up to ONE common end: the blocks it has made, by name.
-/
import Derived.Test.YtelnajpjanmliaaGreatAny
set_option linter.unusedVariables false
set_option linter.unusedSimpArgs false
namespace Go.Proofs.YtelnajpjanmliaaGreat
open Go.RowKit
section
variable {P : Program} {Q : Exit → Act → World → Prop} {w0 w : World} {σ : List Blk} {a : Act}
theorem qw_skipR {ops : List Oper} {L : Array Bool} {k fuel : Nat} {o : Oper} {rest : List Oper} (hr : (Region.ready .any ops.toArray L).contains k = false) (h : QW P ops Q w0 σ (k + 1) rest fuel L a w) : QW P ops Q w0 σ k (o :: rest) fuel L a w := h
/-- The end of a region: what stands in the act and which blocks there are, by up to five names and a rest of cells. -/
def JoinR (w0 : World) (F : Nat → Nat → Nat → Nat → Nat → Act) (C : Nat → Nat → Nat → Nat → Nat → List Value → List Blk) : Exit → Act → World → Prop
  | .normal, a, w => ∃ n g1 c1 g2 c2 m, a = F n g1 c1 g2 c2 ∧ Mem w0 w (C n g1 c1 g2 c2 m)
  | _, _, _ => False
theorem wp_join {id : Nat} {l : List Oper} {F : Nat → Nat → Nat → Nat → Nat → Act} (D : Nat → Nat → Nat → Nat → Nat → List Value → List Blk)
    (h : Mem w0 w σ → (Code.region id l.toArray true).wp P (JoinR w0 F (fun n g1 c1 g2 c2 m => D n g1 c1 g2 c2 m ++ σ)) a w)
    (k : ∀ n g1 c1 g2 c2 m w', Mem w0 w' (D n g1 c1 g2 c2 m ++ σ) → Q .normal (F n g1 c1 g2 c2) w') : Mem w0 w σ → (Code.region id l.toArray true).wp P Q a w := fun hm => by
  refine Code.wp_mono (Q := JoinR w0 F (fun n g1 c1 g2 c2 m => D n g1 c1 g2 c2 m ++ σ)) (fun e a' w' he => ?_) (h hm)
  cases e
  case normal =>
    obtain ⟨n, g1, c1, g2, c2, m, rfl, hm'⟩ := he
    exact k n g1 c1 g2 c2 m w' hm'
  all_goals exact he.elim
theorem gjn {F : Nat → Nat → Nat → Nat → Nat → Act} {C : Nat → Nat → Nat → Nat → Nat → List Value → List Blk} {e : Exit} (h : JoinR w0 F C e a w) : JoinR w0 F C e a w := h
theorem jend {F : Nat → Nat → Nat → Nat → Nat → Act} {C : Nat → Nat → Nat → Nat → Nat → List Value → List Blk} (n g1 c1 g2 c2 : Nat) (m : List Value) (he : a = F n g1 c1 g2 c2) (hm : Mem w0 w (C n g1 c1 g2 c2 m)) : JoinR w0 F C .normal a w := ⟨n, g1, c1, g2, c2, m, he, hm⟩
end
def pickB (σ : List Blk) : List Nat → List Blk
  | [] => []
  | i :: r => match σ[i]? with
    | some b => b :: pickB σ r
    | none => pickB σ r
theorem mem_pickB {σ : List Blk} {x : Blk} : ∀ {ix : List Nat}, x ∈ pickB σ ix → ∃ i ∈ ix, σ[i]? = some x
  | [], h => by cases h
  | i :: r, h => by
    unfold pickB at h
    split at h
    · rename_i b hb
      rcases List.mem_cons.1 h with rfl | h
      · exact ⟨i, by simp, hb⟩
      · obtain ⟨j, hj, e⟩ := mem_pickB h
        exact ⟨j, by simp [hj], e⟩
    · obtain ⟨j, hj, e⟩ := mem_pickB h
      exact ⟨j, by simp [hj], e⟩
theorem pickB_apart {σ : List Blk} (h : σ.Pairwise fun a b => a.n ≠ b.n) : ∀ {ix : List Nat}, ix.Nodup → (pickB σ ix).Pairwise fun a b => a.n ≠ b.n
  | [], _ => List.Pairwise.nil
  | i :: r, hn => by
    have hr := pickB_apart h (List.nodup_cons.1 hn).2
    unfold pickB
    split
    · rename_i b hb
      refine List.pairwise_cons.2 ⟨fun x hx => ?_, hr⟩
      obtain ⟨j, hj, e⟩ := mem_pickB hx
      have hij : i ≠ j := fun e => (List.nodup_cons.1 hn).1 (e ▸ hj)
      obtain ⟨hi', hb'⟩ := List.getElem?_eq_some_iff.1 hb
      obtain ⟨hj', hx'⟩ := List.getElem?_eq_some_iff.1 e
      have := List.pairwise_iff_getElem.1 h
      rw [← hb', ← hx']
      rcases Nat.lt_or_gt_of_ne hij with hlt | hlt
      · exact this i j hi' hj' hlt
      · exact fun e => this j i hj' hi' hlt e.symm
    · exact hr
theorem Mem.pick {w0 w : World} {σ : List Blk} (hm : Mem w0 w σ) (ix : List Nat) (hn : ix.Nodup) : Mem w0 w (pickB σ ix) :=
  ⟨hm.below, fun b hb => by obtain ⟨i, -, e⟩ := mem_pickB hb; exact hm.own b (List.mem_of_getElem? e), fun b hb => by obtain ⟨i, -, e⟩ := mem_pickB hb; exact hm.lies b (List.mem_of_getElem? e), pickB_apart hm.apart hn⟩
theorem jend12 {w0 w : World} {a : Act} {F : Nat → Nat → Nat → Nat → Nat → Act} {C : Nat → Nat → Nat → Nat → Nat → List Value → List Blk} {n1 n2 : Nat} {c1 c2 : List Value} {t1 t2 : TypeId} {σ : List Blk} (hm : Mem w0 w (⟨n1, c1, t1⟩ :: ⟨n2, c2, t2⟩ :: σ)) (x y z : Nat) (m : List Value) (he : a = F n1 n2 x y z) (h : Mem w0 w (C n1 n2 x y z m)) : JoinR w0 F C .normal a w := jend n1 n2 x y z m he h
end Go.Proofs.YtelnajpjanmliaaGreat
