/-
  Walks of what deeds rest on: slides, tiles that are put and taken.
-/
import Derived.Test.YtlhchjjegaflhaaSteps
import Derived.Test.YtlhchjjegaflhaaAny
set_option linter.unusedVariables false
set_option linter.unusedSimpArgs false
namespace Go.Proofs.Ytlhchjjegaflhaa
open Go.RowKit Slm
def z16d : List Int := [0, 0, 0, 0, 0, 0, 0, 0, 0, 0, 0, 0, 0, 0, 0, 0]
/-- SlideBoard, told, of a valid board. -/
def slV (b : List Int) (d : Int) : List Int × Int × Bool := if inB d 0 3 = true then (slideB 1 d.toNat b, scoreB d.toNat b, true) else (z16d, 0, false)
theorem impl_SlideBoard (b : List Int) (hl : b.length = 16) (hok : okL b = true) (d : Int) (w : World) : Calls Try.prog 30 #[.agg (nums b), iv d] w fun e w' => e = .returned (.tuple #[.agg (nums (slV b d).1), iv (slV b d).2.1, .bool (slV b d).2.2]) ∧ Below w.heap.size w w' := by
  have hB := impl_IsBoard b hl
  have hD := impl_isDirection d
  rw [hok] at hB
  unfold slV
  cases q2 : inB d 0 3
  · rw [q2] at hD
    simp only [Bool.false_eq_true, if_false, z16d]
    have HB := Lib.hid hB
    have HD := Lib.hid hD
    clear hB hD q2 hok
    go_enter Try.func30, Try.ntmps30
    have hm := Mem.start w
    simp only [nums_map] at *
    repeat' (first | (go_at_call 51; refine mem_call hm (HB.out _) ?_; clear hm; intro w hm; (try simp only [nums, List.map_cons, List.map_nil])) | (go_at_call 52; refine mem_call hm (HD.out _) ?_; clear hm; intro w hm; (try simp only [nums, List.map_cons, List.map_nil])) | ((with_reducible refine gix ?_); first | refine mix rfl rfl rfl rfl ?_ | refine mixr rfl rfl rfl rfl ?_; (try simp only [Int.toNat_zero, Int.reduceToNat, Nat.reduceMul, Nat.zero_mul, Nat.one_mul, List.drop_succ_cons, List.drop_zero, List.take_succ_cons, List.take_zero])) | ((with_reducible refine gl ?_); first | refine ml hm rfl rfl rfl ?_ | refine mlw hm rfl rfl rfl ?_ | (refine mlr hm rfl rfl rfl ?_; try simp only [List.drop_succ_cons, List.drop_zero, List.take_succ_cons, List.take_zero])) | ((with_reducible refine gs ?_); (first | refine ms hm rfl rfl rfl rfl rfl ?_ | refine msw hm rfl rfl rfl rfl ?_ | refine msr hm rfl rfl rfl rfl ?_); clear hm; intro w hm; (try simp only [splice, List.set_cons_zero, List.set_cons_succ] at hm)) | ((with_reducible refine gb ?_); (first | refine mem_box hm rfl rfl rfl ?_ | refine mem_box1 hm rfl rfl rfl rfl ?_); clear hm; intro n w hm) | ((with_reducible refine ga ?_); refine mem_alloc hm rfl rfl ?_; clear hm; intro n w hm) | go_values | go_skip | go_guarded | go_step | go_upon | ((with_reducible refine bp ?_); go_back) | ((with_reducible refine up ?_); first | (simp only [Int.not_lt, Int.not_le] at *; go_simp) | (go_values <;> (try go_simp)) | (go_ite <;> go_prune <;> (try go_simp)) | (split <;> (first | (rename_i hx; exact (hx _ rfl).elim) | go_prune))))
    (try simp only [Exit.inBlock, Exit.then])
    (first | (refine ret1 rfl rfl (by (first | exact Res.tmp rfl | exact Res.atw hm rfl | exact Res.at hm rfl)) ?_) | (refine ret2 rfl rfl (by (first | exact Res.tmp rfl | exact Res.atw hm rfl | exact Res.at hm rfl)) (by (first | exact Res.tmp rfl | exact Res.atw hm rfl | exact Res.at hm rfl)) ?_) | (refine ret3 rfl rfl (by (first | exact Res.tmp rfl | exact Res.atw hm rfl | exact Res.at hm rfl)) (by (first | exact Res.tmp rfl | exact Res.atw hm rfl | exact Res.at hm rfl)) (by (first | exact Res.tmp rfl | exact Res.atw hm rfl | exact Res.at hm rfl)) ?_) | (refine ret4 rfl rfl (by (first | exact Res.tmp rfl | exact Res.atw hm rfl | exact Res.at hm rfl)) (by (first | exact Res.tmp rfl | exact Res.atw hm rfl | exact Res.at hm rfl)) (by (first | exact Res.tmp rfl | exact Res.atw hm rfl | exact Res.at hm rfl)) (by (first | exact Res.tmp rfl | exact Res.atw hm rfl | exact Res.at hm rfl)) ?_) | fail "ret")
    exact ⟨rfl, hm.below⟩
  · obtain ⟨nk, rfl⟩ := Int.eq_ofNat_of_zero_le (inB_iff.1 q2).1
    have hS := impl_slide nk (by have := (inB_iff.1 q2).2; omega) b hl hok
    have hsl := slideB_len 1 nk b
    rw [hl] at hsl
    rw [q2] at hD
    simp only [if_true, Int.toNat_natCast]
    generalize mergedB 1 nk b = mg at *
    generalize scoreB nk b = sc at *
    generalize slideB 1 nk b = S at *
    have HB := Lib.hid hB
    have HD := Lib.hid hD
    have HS := Lib.hid hS
    clear hB hD hS q2 hok
    go_enter Try.func30, Try.ntmps30
    have hm := Mem.start w
    simp only [nums_map] at *
    repeat' (first | (go_at_call 51; refine mem_call hm (HB.out _) ?_; clear hm; intro w hm; (try simp only [nums, List.map_cons, List.map_nil])) | (go_at_call 52; refine mem_call hm (HD.out _) ?_; clear hm; intro w hm; (try simp only [nums, List.map_cons, List.map_nil])) | (go_at_call 73; refine mem_call hm (HS.out _) ?_; clear hm; intro w hm; (try simp only [nums, List.map_cons, List.map_nil])) | ((with_reducible refine gix ?_); first | refine mix rfl rfl rfl rfl ?_ | refine mixr rfl rfl rfl rfl ?_; (try simp only [Int.toNat_zero, Int.reduceToNat, Nat.reduceMul, Nat.zero_mul, Nat.one_mul, List.drop_succ_cons, List.drop_zero, List.take_succ_cons, List.take_zero])) | ((with_reducible refine gl ?_); first | refine ml hm rfl rfl rfl ?_ | refine mlw hm rfl rfl rfl ?_ | (refine mlr hm rfl rfl rfl ?_; try simp only [List.drop_succ_cons, List.drop_zero, List.take_succ_cons, List.take_zero])) | ((with_reducible refine gs ?_); (first | refine ms hm rfl rfl rfl rfl rfl ?_ | refine msw hm rfl rfl rfl rfl ?_ | refine msr hm rfl rfl rfl rfl ?_); clear hm; intro w hm; (try simp only [splice, List.set_cons_zero, List.set_cons_succ] at hm)) | ((with_reducible refine gb ?_); (first | refine mem_box hm rfl rfl rfl ?_ | refine mem_box1 hm rfl rfl rfl rfl ?_); clear hm; intro n w hm) | ((with_reducible refine ga ?_); refine mem_alloc hm rfl rfl ?_; clear hm; intro n w hm) | go_values | go_skip | go_guarded | go_step | go_upon | ((with_reducible refine bp ?_); go_back) | ((with_reducible refine up ?_); first | (simp only [Int.not_lt, Int.not_le] at *; go_simp) | (go_values <;> (try go_simp)) | (go_ite <;> go_prune <;> (try go_simp)) | (split <;> (first | (rename_i hx; exact (hx _ rfl).elim) | go_prune))))
    (try simp only [Exit.inBlock, Exit.then])
    (first | (refine ret1 rfl rfl (by (first | exact Res.tmp rfl | exact Res.atw hm rfl | exact Res.at hm rfl)) ?_) | (refine ret2 rfl rfl (by (first | exact Res.tmp rfl | exact Res.atw hm rfl | exact Res.at hm rfl)) (by (first | exact Res.tmp rfl | exact Res.atw hm rfl | exact Res.at hm rfl)) ?_) | (refine ret3 rfl rfl (by (first | exact Res.tmp rfl | exact Res.atw hm rfl | exact Res.at hm rfl)) (by (first | exact Res.tmp rfl | exact Res.atw hm rfl | exact Res.at hm rfl)) (by (first | exact Res.tmp rfl | exact Res.atw hm rfl | exact Res.at hm rfl)) ?_) | (refine ret4 rfl rfl (by (first | exact Res.tmp rfl | exact Res.atw hm rfl | exact Res.at hm rfl)) (by (first | exact Res.tmp rfl | exact Res.atw hm rfl | exact Res.at hm rfl)) (by (first | exact Res.tmp rfl | exact Res.atw hm rfl | exact Res.at hm rfl)) (by (first | exact Res.tmp rfl | exact Res.atw hm rfl | exact Res.at hm rfl)) ?_) | fail "ret")
    exact ⟨rfl, hm.below⟩
def cellB (r c : Int) : Bool := inB r 0 3 && inB c 0 3
def posC (r c : Int) : Nat := 4 * r.toNat + c.toNat
/-- PutTile and TakeTile, told, of a valid board. -/
def putOK (b : List Int) (r c t : Int) : Bool := cellB r c && (inB t 1 17 && decide (atL b (posC r c) = 0))
def putV (b : List Int) (r c t : Int) : List Int := if putOK b r c t = true then b.set (posC r c) t else z16d
def takeOK (b : List Int) (r c : Int) : Bool := cellB r c && !decide (atL b (posC r c) = 0)
def takeV (b : List Int) (r c : Int) : List Int := if takeOK b r c = true then b.set (posC r c) 0 else z16d
def takeT (b : List Int) (r c : Int) : Int := if takeOK b r c = true then atL b (posC r c) else 0
theorem cell_nat {r c : Int} (h : cellB r c = true) : ∃ r' c' : Nat, r = r' ∧ c = c' ∧ r' ≤ 3 ∧ c' ≤ 3 := by
  simp only [cellB, Bool.and_eq_true, inB_iff] at h
  exact ⟨r.toNat, c.toNat, by omega, by omega, by omega, by omega⟩
theorem atL_get {b : List Int} (hl : b.length = 16) {p : Nat} (h : p < 16) : (b.map iv)[p]? = some (iv (atL b p)) := get_iv (by omega)
end Go.Proofs.Ytlhchjjegaflhaa
