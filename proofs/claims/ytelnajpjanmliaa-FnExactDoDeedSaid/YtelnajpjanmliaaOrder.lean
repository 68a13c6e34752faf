/-
  Walks of the orders of directions.
-/
import Derived.Test.YtelnajpjanmliaaSmall
import Derived.Test.YtelnajpjanmliaaShelf
import Derived.Test.YtelnajpjanmliaaCmp
import Derived.Test.YtelnajpjanmliaaDel
import Derived.Lib.RowBridge
import Derived.Lib.AppendIntMem
set_option linter.unusedVariables false
set_option linter.unusedSimpArgs false
namespace Go.Proofs.Ytelnajpjanmliaa
open Go.RowKit Slm Go.Sort
/-- An order has each direction once. -/
def ordB (o : List Int) : Bool := decide ((o.mergeSort fun x y => decide (x ≤ y)) = [0, 1, 2, 3])
def ordS (o : List Int) : Bool := o.all (fun x => inB x 0 3) && decide o.Nodup
theorem ordS_eq {o : List Int} (hl : o.length = 4) : ordS o = ordB o := by
  rw [Bool.eq_iff_iff]
  simp only [ordS, ordB, Bool.and_eq_true, decide_eq_true_eq, List.all_eq_true, inB_iff]
  have hp := List.mergeSort_perm o (fun x y => decide (x ≤ y))
  constructor
  · rintro ⟨h1, h2⟩
    have hs : (o.mergeSort fun x y => decide (x ≤ y)).Pairwise (fun x y => decide (x ≤ y) = true) := List.pairwise_mergeSort (by intro a b c; simp; omega) (by intro a b; simp; omega) o
    have hn := hp.nodup_iff.2 h2
    have hm : ∀ x ∈ (o.mergeSort fun x y => decide (x ≤ y)), 0 ≤ x ∧ x ≤ 3 := fun x hx => h1 x (hp.mem_iff.1 hx)
    have hlen := hp.length_eq
    rw [hl] at hlen
    generalize (o.mergeSort fun x y => decide (x ≤ y)) = l at *
    match l, hlen with
    | [a, b, c, d], _ =>
      have ha := hm a (by simp)
      have hb := hm b (by simp)
      have hc := hm c (by simp)
      have hd := hm d (by simp)
      simp only [List.pairwise_cons, List.mem_cons, List.nodup_cons, not_or, decide_eq_true_eq, forall_eq_or_imp, List.not_mem_nil, false_implies, implies_true, not_false_eq_true, and_true] at hs hn
      have e0 : a = 0 := by omega
      have e1 : b = 1 := by omega
      have e2 : c = 2 := by omega
      have e3 : d = 3 := by omega
      rw [e0, e1, e2, e3]
  · intro h
    rw [h] at hp
    exact ⟨fun x hx => by have := hp.mem_iff.2 hx; simp at this; omega, hp.nodup_iff.1 (by decide)⟩
theorem slices_Sort_own {w0 w : World} {σ : List Blk} {g i n cap : Nat} {t : TypeId} {zs : List Int} (hm : Mem w0 w σ) [hA : At σ g (zs.map iv) t i] (hn : zs.length = n) (hb : n ≤ 1000) :
    Calls Try.prog 59 #[.slice (some ⟨g, 0, none⟩) n cap] w fun e w' => e = .returned (.tuple #[]) ∧ Mem w0 w' (σ.set i ⟨g, (zs.mergeSort fun x y => decide (x ≤ y)).map iv, t⟩) := by
  subst hn
  have hH : Holds (Value.int .i64) w g 0 zs.toArray := fun j hj => by
    have hj' : j < zs.length := by simpa using hj
    have h1 := hm.cell (.of hA.out) j
    rw [List.getElem?_map, List.getElem?_eq_getElem hj'] at h1
    rw [Nat.zero_add]
    refine ⟨?_, hm.frozen (.of hA.out) j⟩
    rw [h1]
    simp [hj']
  refine (Try.slices_Sort_int g 0 cap zs w hH (hm.lt (.of hA.out)) (by omega)).mono fun e w' ⟨he, q, os, hw⟩ => ⟨he, ?_⟩
  have hlen : (zs.mergeSort fun x y => decide (x ≤ y)).length = zs.toArray.size := by simp
  rw [Lib.putRow_eq_setCells (Value.int .i64) w g 0 zs.toArray _ q hH hlen] at hw
  subst hw
  have h1 : Mem w0 (w.drewN q) σ := hm.next (below_drewN (Below.refl _ _) q)
  have h2 := h1.sets (.of hA.out) (o := 0) (vs := (zs.mergeSort fun x y => decide (x ≤ y)).map iv) (Upd.of_set hA.out)
  rw [splice_all (by simp)] at h2
  refine h2.next ?_
  have := Lib.below_grow _ ((w.drewN q).setCells g 0 ((zs.mergeSort fun x y => decide (x ≤ y)).map iv)) (Nat.le_refl _) 0 os
  rwa [World.drewN_zero] at this
end Go.Proofs.Ytelnajpjanmliaa
