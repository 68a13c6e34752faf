/-
  Walks of the orders of directions.
-/
import Derived.Test.YthcjokgjiknheaaSmall
import Derived.Test.YthcjokgjiknheaaShelf
import Derived.Test.YthcjokgjiknheaaCmp
import Derived.Test.YthcjokgjiknheaaDel
import Derived.Lib.RowBridge
import Derived.Lib.AppendIntMem
set_option linter.unusedVariables false
set_option linter.unusedSimpArgs false
namespace Go.Proofs.Ythcjokgjiknheaa
open Go.RowKit Slm Go.Sort
/-- An order has each direction once. -/
def ordB (o : List Int) : Bool := decide ((o.mergeSort fun x y => decide (x ≤ y)) = [0, 1, 2, 3])
def ordS (o : List Int) : Bool := o.all (fun x => inB x 0 3) && decide o.Nodup
theorem ordS_eq {o : List Int} (hl : o.length = 4) : ordS o = ordB o := by
  rw [Bool.eq_iff_iff]
  simp only [ordS, ordB, Bool.and_eq_true, decide_eq_true_eq, List.all_eq_true, inB_iff]
  have hp := List.mergeSort_perm o (fun x y => decide (x ≤ y))
  constructor
  · rintro ⟨h1, h2⟩
    have hs : (o.mergeSort fun x y => decide (x ≤ y)).Pairwise (fun x y => decide (x ≤ y) = true) := List.pairwise_mergeSort (by intro a b c; simp; omega) (by intro a b; simp; omega) o
    have hn := hp.nodup_iff.2 h2
    have hm : ∀ x ∈ (o.mergeSort fun x y => decide (x ≤ y)), 0 ≤ x ∧ x ≤ 3 := fun x hx => h1 x (hp.mem_iff.1 hx)
    have hlen := hp.length_eq
    rw [hl] at hlen
    generalize (o.mergeSort fun x y => decide (x ≤ y)) = l at *
    match l, hlen with
    | [a, b, c, d], _ =>
      have ha := hm a (by simp)
      have hb := hm b (by simp)
      have hc := hm c (by simp)
      have hd := hm d (by simp)
      simp only [List.pairwise_cons, List.mem_cons, List.nodup_cons, not_or, decide_eq_true_eq, forall_eq_or_imp, List.not_mem_nil, false_implies, implies_true, not_false_eq_true, and_true] at hs hn
      have e0 : a = 0 := by omega
      have e1 : b = 1 := by omega
      have e2 : c = 2 := by omega
      have e3 : d = 3 := by omega
      rw [e0, e1, e2, e3]
  · intro h
    rw [h] at hp
    exact ⟨fun x hx => by have := hp.mem_iff.2 hx; simp at this; omega, hp.nodup_iff.1 (by decide)⟩
theorem slices_Sort_own {w0 w : World} {σ : List Blk} {g i n cap : Nat} {t : TypeId} {zs : List Int} (hm : Mem w0 w σ) [hA : At σ g (zs.map iv) t i] (hn : zs.length = n) (hb : n ≤ 1000) :
    Calls Try.prog 102 #[.slice (some ⟨g, 0, none⟩) n cap] w fun e w' => e = .returned (.tuple #[]) ∧ Mem w0 w' (σ.set i ⟨g, (zs.mergeSort fun x y => decide (x ≤ y)).map iv, t⟩) := by
  subst hn
  have hH : Holds (Value.int .i64) w g 0 zs.toArray := fun j hj => by
    have hj' : j < zs.length := by simpa using hj
    have h1 := hm.cell (.of hA.out) j
    rw [List.getElem?_map, List.getElem?_eq_getElem hj'] at h1
    rw [Nat.zero_add]
    refine ⟨?_, hm.frozen (.of hA.out) j⟩
    rw [h1]
    simp [hj']
  refine (Try.slices_Sort_int g 0 cap zs w hH (hm.lt (.of hA.out)) (by omega)).mono fun e w' ⟨he, q, os, hw⟩ => ⟨he, ?_⟩
  have hlen : (zs.mergeSort fun x y => decide (x ≤ y)).length = zs.toArray.size := by simp
  rw [Lib.putRow_eq_setCells (Value.int .i64) w g 0 zs.toArray _ q hH hlen] at hw
  subst hw
  have h1 : Mem w0 (w.drewN q) σ := hm.next (below_drewN (Below.refl _ _) q)
  have h2 := h1.sets (.of hA.out) (o := 0) (vs := (zs.mergeSort fun x y => decide (x ≤ y)).map iv) (Upd.of_set hA.out)
  rw [splice_all (by simp)] at h2
  refine h2.next ?_
  have := Lib.below_grow _ ((w.drewN q).setCells g 0 ((zs.mergeSort fun x y => decide (x ≤ y)).map iv)) (Nat.le_refl _) 0 os
  rwa [World.drewN_zero] at this
theorem impl_isOrder (o : List Int) (hl : o.length = 4) (w : World) : Calls Try.prog 72 #[.agg (nums o)] w fun e w' => e = .returned (.bool (ordB o)) ∧ Below w.heap.size w w' := by
  have hS := fun (w0 w : World) (σ : List Blk) (g i : Nat) (cap : Nat) (hm : Mem w0 w σ) (hA : At σ g (o.map iv) 22 i) => slices_Sort_own (hA := hA) (cap := cap) hm hl (by omega)
  have hml : (o.mergeSort fun x y => decide (x ≤ y)).length = 4 := by simp [hl]
  have hx : ordB o = decide ((o.mergeSort fun x y => decide (x ≤ y)) = [0, 1, 2, 3]) := rfl
  generalize (o.mergeSort fun x y => decide (x ≤ y)) = M at *
  generalize ordB o = q at *
  have HS := Lib.hid hS
  clear hS
  cases hq : decide (M = [0, 1, 2, 3])
  all_goals
    rw [hq] at hx
    subst hx
    go_enter Try.func72, Try.ntmps72
    have hm := Mem.start w
    simp only [nums_map]
    repeat' (first | ((with_reducible refine gcmp ?_); refine mcmp (hq) (by first | exact .inl rfl | exact .inr rfl) rfl rfl rfl rfl ?_; (try simp only [cmpV, Bool.not_true, Bool.not_false])) | (go_at_call 102; refine mem_callM (HS.out _ _ _ _ _ _ hm inferInstance) ?_; clear hm; intro w hm; (try simp only [List.set_cons_zero, List.set_cons_succ] at hm); (try simp only [])) | ((with_reducible refine gix ?_); first | refine mix rfl rfl rfl rfl ?_ | refine mixr rfl rfl rfl rfl ?_; (try simp only [Int.toNat_zero, Int.reduceToNat, Nat.reduceMul, Nat.zero_mul, Nat.one_mul, List.drop_succ_cons, List.drop_zero, List.take_succ_cons, List.take_zero])) | ((with_reducible refine gl ?_); first | refine ml hm rfl rfl rfl ?_ | refine mlw hm rfl rfl rfl ?_ | (refine mlr hm rfl rfl rfl ?_; try simp only [List.drop_succ_cons, List.drop_zero, List.take_succ_cons, List.take_zero])) | ((with_reducible refine gs ?_); (first | refine ms hm rfl rfl rfl rfl rfl ?_ | refine msw hm rfl rfl rfl rfl ?_ | refine msr hm rfl rfl rfl rfl ?_); clear hm; intro w hm; (try simp only [splice, List.set_cons_zero, List.set_cons_succ] at hm)) | ((with_reducible refine gb ?_); (first | refine mem_box hm rfl rfl rfl ?_ | refine mem_box1 hm rfl rfl rfl rfl ?_); clear hm; intro n w hm) | ((with_reducible refine ga ?_); refine mem_alloc hm rfl rfl ?_; clear hm; intro n w hm) | go_values | go_skip | go_guarded | go_step | go_upon | ((with_reducible refine bp ?_); go_back) | ((with_reducible refine up ?_); first | (simp only [Int.not_lt, Int.not_le] at *; go_simp) | (go_values <;> (try go_simp)) | (go_ite <;> go_prune <;> (try go_simp)) | (split <;> (first | (rename_i hx; exact (hx _ rfl).elim) | go_prune))))
    (try simp only [Exit.inBlock, Exit.then])
    (first | (refine ret1 rfl rfl (by (first | exact Res.tmp rfl | exact Res.atw hm rfl | exact Res.at hm rfl)) ?_) | (refine ret2 rfl rfl (by (first | exact Res.tmp rfl | exact Res.atw hm rfl | exact Res.at hm rfl)) (by (first | exact Res.tmp rfl | exact Res.atw hm rfl | exact Res.at hm rfl)) ?_) | (refine ret3 rfl rfl (by (first | exact Res.tmp rfl | exact Res.atw hm rfl | exact Res.at hm rfl)) (by (first | exact Res.tmp rfl | exact Res.atw hm rfl | exact Res.at hm rfl)) (by (first | exact Res.tmp rfl | exact Res.atw hm rfl | exact Res.at hm rfl)) ?_) | (refine ret4 rfl rfl (by (first | exact Res.tmp rfl | exact Res.atw hm rfl | exact Res.at hm rfl)) (by (first | exact Res.tmp rfl | exact Res.atw hm rfl | exact Res.at hm rfl)) (by (first | exact Res.tmp rfl | exact Res.atw hm rfl | exact Res.at hm rfl)) (by (first | exact Res.tmp rfl | exact Res.atw hm rfl | exact Res.at hm rfl)) ?_) | fail "ret")
    exact ⟨rfl, hm.below⟩
theorem spec_l11Order (o : List Int) (hl : o.length = 4) (w : World) : Calls Try.prog 63 #[.agg (nums o)] w fun e w' => e = .returned (.bool (ordB o)) ∧ Below w.heap.size w w' := by
  rw [← ordS_eq hl]
  obtain ⟨a, b, c, d, rfl⟩ := list4 hl
  clear hl
  (try simp only [nums, List.map_cons, List.map_nil])
  have hA := spec_l2Side a
  have hB := spec_l2Side b
  have hC := spec_l2Side c
  have hD := spec_l2Side d
  have hx : ordS [a, b, c, d] = (inB a 0 3 && (inB b 0 3 && (inB c 0 3 && inB d 0 3)) && (!(a == b) && (!(a == c) && (!(b == c) && (!(a == d) && (!(b == d) && !(c == d))))))) := by
    rw [Bool.eq_iff_iff]
    simp only [ordS, List.all_cons, List.all_nil, List.nodup_cons, List.mem_cons, not_or, List.not_mem_nil, not_false_eq_true, List.nodup_nil, Bool.and_true, Bool.and_eq_true, decide_eq_true_eq, Bool.not_eq_true', beq_eq_false_iff_ne, ne_eq, and_true]
    constructor <;> (intro h; simp_all)
  rw [hx]
  clear hx
  generalize inB a 0 3 = qa at *
  generalize inB b 0 3 = qb at *
  generalize inB c 0 3 = qc at *
  generalize inB d 0 3 = qd at *
  have HA := Lib.hid hA
  have HB := Lib.hid hB
  have HC := Lib.hid hC
  have HD := Lib.hid hD
  clear hA hB hC hD
  go_enter Try.func63, Try.ntmps63
  have hm := Mem.start w
  repeat' (first | (go_at_call 85; refine mem_call hm (by first | with_reducible exact HA.out _ | with_reducible exact HB.out _ | with_reducible exact HC.out _ | with_reducible exact HD.out _) ?_; clear hm; intro w hm; (try simp only [nums, List.map_cons, List.map_nil])) | ((with_reducible refine gd ?_); refine mq_start hm (by kernel_rfl) (by kernel_rfl) ?_; intro hne; (repeat (first | ((with_reducible refine gq ?_); first | refine ql rfl rfl rfl ?_ | (refine qlr rfl rfl rfl ?_; try simp only [List.drop_succ_cons, List.drop_zero, List.take_succ_cons, List.take_zero])) | (refine wpQuiet_step (fun K hK => ?_); go_simp; first | (refine hK _ ?_; clear hK K) | (apply Exists.intro; refine ⟨fun _ => ?_, hK _ ?_⟩; (first | fail | fail); clear hK K)))); refine wpQuiet_nil ?_; clear hm hne; intro w hm) | ((with_reducible refine gix ?_); first | refine mix rfl rfl rfl rfl ?_ | refine mixr rfl rfl rfl rfl ?_; (try simp only [Int.toNat_zero, Int.reduceToNat, Nat.reduceMul, Nat.zero_mul, Nat.one_mul, List.drop_succ_cons, List.drop_zero, List.take_succ_cons, List.take_zero])) | ((with_reducible refine gl ?_); first | refine ml hm rfl rfl rfl ?_ | refine mlw hm rfl rfl rfl ?_ | (refine mlr hm rfl rfl rfl ?_; try simp only [List.drop_succ_cons, List.drop_zero, List.take_succ_cons, List.take_zero])) | ((with_reducible refine gs ?_); (first | refine ms hm rfl rfl rfl rfl rfl ?_ | refine msw hm rfl rfl rfl rfl ?_ | refine msr hm rfl rfl rfl rfl ?_); clear hm; intro w hm; (try simp only [splice, List.set_cons_zero, List.set_cons_succ] at hm)) | ((with_reducible refine gb ?_); (first | refine mem_box hm rfl rfl rfl ?_ | refine mem_box1 hm rfl rfl rfl rfl ?_); clear hm; intro n w hm) | ((with_reducible refine ga ?_); refine mem_alloc hm rfl rfl ?_; clear hm; intro n w hm) | ((with_reducible refine wp_loop_rounds 18 ?_); rw [rounds_succ]) | (with_reducible rw [rounds_succ]) | go_values | go_skip | go_guarded | go_step | go_upon | ((with_reducible refine bp ?_); go_back) | ((with_reducible refine up ?_); first | (simp only [Int.not_lt, Int.not_le] at *; go_simp) | (go_values <;> (try go_simp)) | (go_ite <;> go_prune <;> (try go_simp)) | (split <;> (first | (rename_i hx; exact (hx _ rfl).elim) | go_prune))))
  all_goals
    (try simp only [Exit.inBlock, Exit.then])
    (first | (refine ret1 rfl rfl (by (first | exact Res.tmp rfl | exact Res.atw hm rfl | exact Res.at hm rfl)) ?_) | (refine ret2 rfl rfl (by (first | exact Res.tmp rfl | exact Res.atw hm rfl | exact Res.at hm rfl)) (by (first | exact Res.tmp rfl | exact Res.atw hm rfl | exact Res.at hm rfl)) ?_) | (refine ret3 rfl rfl (by (first | exact Res.tmp rfl | exact Res.atw hm rfl | exact Res.at hm rfl)) (by (first | exact Res.tmp rfl | exact Res.atw hm rfl | exact Res.at hm rfl)) (by (first | exact Res.tmp rfl | exact Res.atw hm rfl | exact Res.at hm rfl)) ?_) | (refine ret4 rfl rfl (by (first | exact Res.tmp rfl | exact Res.atw hm rfl | exact Res.at hm rfl)) (by (first | exact Res.tmp rfl | exact Res.atw hm rfl | exact Res.at hm rfl)) (by (first | exact Res.tmp rfl | exact Res.atw hm rfl | exact Res.at hm rfl)) (by (first | exact Res.tmp rfl | exact Res.atw hm rfl | exact Res.at hm rfl)) ?_) | fail "ret")
    exact ⟨by simp_all, hm.below⟩
end Go.Proofs.Ythcjokgjiknheaa
