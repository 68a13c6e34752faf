/-
  The marks of replays, wherever their block stands.
-/
import Derived.Test.YthcjokgjiknheaaRep2
set_option linter.unusedVariables false
set_option linter.unusedSimpArgs false
namespace Go.Proofs.Ythcjokgjiknheaa
open Go.RowKit Slm
theorem Mem.back {w0 w : World} {σ : List Blk} {i : Nat} {b b' : Blk} (h : σ[i]? = some b) (hm : Mem w0 w (b' :: σ.eraseIdx i)) : Mem w0 w (σ.set i b') := by
  have hi : i < σ.length := (List.getElem?_eq_some_iff.1 h).1
  have h1 : (σ.set i b')[i]? = some b' := by rw [List.getElem?_set_self hi]
  have h2 := front_perm (σ.set i b') i b' h1
  rw [List.eraseIdx_set_eq] at h2
  exact hm.perm h2.symm
theorem laws_markReplay_at {w0 w : World} {σ : List Blk} {g i len cap : Nat} {xs : List Int} {more : List Value} (b : List Int) (hb : b.length = 16) (hm : Mem w0 w σ) [h : At σ g (xs.map iv ++ more) 55 i] (hx : xs.length = len * 4) (hl : len ≤ 2000000) :
    Calls Try.prog 31 #[.agg (b.map iv ++ [Value.slice (some ⟨g, 0, none⟩) len cap]).toArray, iv 1] w fun e w' => e = .returned (iv (1 + len * 4)) ∧ Mem w0 w' (σ.set i ⟨g, (marksL 1 (len * 4)).map iv ++ more, 55⟩) :=
  (laws_markReplay b hb (hm.front i _ h.out) hx hl).mono fun e w' ⟨he, h1⟩ => ⟨he, Mem.back h.out h1⟩
end Go.Proofs.Ythcjokgjiknheaa
