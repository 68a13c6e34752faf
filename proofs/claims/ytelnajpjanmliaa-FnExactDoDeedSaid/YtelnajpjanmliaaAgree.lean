/-
  Walks of RulesAgree.
-/
import Derived.Test.YtelnajpjanmliaaSlide
import Derived.Test.YtelnajpjanmliaaSlide2
import Derived.Test.YtelnajpjanmliaaSlide3
import Derived.Test.YtelnajpjanmliaaInts
import Derived.Test.YtelnajpjanmliaaCmp
import Derived.Test.YtelnajpjanmliaaSmall
set_option linter.unusedVariables false
set_option linter.unusedSimpArgs false
namespace Go.Proofs.Ytelnajpjanmliaa
open Go.RowKit Slm
theorem Mem.perm {w0 w : World} {σ τ : List Blk} (hm : Mem w0 w σ) (h : σ.Perm τ) : Mem w0 w τ :=
  ⟨hm.below, fun b hb => hm.own b (h.mem_iff.2 hb), fun b hb => hm.lies b (h.mem_iff.2 hb), h.pairwise hm.apart (fun {a b} h => h.symm)⟩
theorem front_perm : ∀ (σ : List Blk) (i : Nat) (b : Blk), σ[i]? = some b → σ.Perm (b :: σ.eraseIdx i)
  | [], i, b, h => by simp at h
  | x :: σ, 0, b, h => by simp at h; subst h; exact List.Perm.refl _
  | x :: σ, i + 1, b, h => by
    have := front_perm σ i b (by simpa using h)
    exact (this.cons x).trans (List.Perm.swap b x _)
theorem Mem.front {w0 w : World} {σ : List Blk} (i : Nat) (b : Blk) (hm : Mem w0 w σ) (h : σ[i]? = some b) : Mem w0 w (b :: σ.eraseIdx i) := hm.perm (front_perm σ i b h)
theorem impl_slides1 {w0 w : World} {σ : List Blk} {g i c : Nat} {more : List Value} (d : Nat) (hd : d ≤ 3) (b : List Int) (hl : b.length = 16) (hok : okL b = true) (hm : Mem w0 w σ) [At σ g (iv d :: more) 3 i] :
    Calls Try.prog 64 #[.agg (nums b), .slice (some ⟨g, 0, none⟩) 1 c] w fun e w' => e = .returned (.agg (nums (slideB 1 d b))) ∧ Mem w0 w' σ := by
  have hS := impl_slide d hd b hl hok
  have hsl := slideB_len 1 d b
  generalize slideB 1 d b = S at *
  rw [hl] at hsl
  have HS := Lib.hid hS
  clear hS hok
  go_enter Try.func64, Try.ntmps64
  simp only [nums_map]
  repeat' (first | (go_at_call 65; refine mem_call hm (HS.out _) ?_; clear hm; intro w hm; (try simp only [nums, List.map_cons, List.map_nil])) | ((with_reducible refine gix ?_); first | refine mix rfl rfl rfl rfl ?_ | refine mixr rfl rfl rfl rfl ?_; (try simp only [Int.toNat_zero, Int.reduceToNat, Nat.reduceMul, Nat.zero_mul, Nat.one_mul, List.drop_succ_cons, List.drop_zero, List.take_succ_cons, List.take_zero])) | ((with_reducible refine gl ?_); first | refine ml hm rfl rfl rfl ?_ | refine mlw hm rfl rfl rfl ?_ | (refine mlr hm rfl rfl rfl ?_; try simp only [List.drop_succ_cons, List.drop_zero, List.take_succ_cons, List.take_zero])) | ((with_reducible refine gs ?_); (first | refine ms hm rfl rfl rfl rfl rfl ?_ | refine msw hm rfl rfl rfl rfl ?_ | refine msr hm rfl rfl rfl rfl ?_); clear hm; intro w hm; (try simp only [splice, List.set_cons_zero, List.set_cons_succ] at hm)) | ((with_reducible refine gb ?_); (first | refine mem_box hm rfl rfl rfl ?_ | refine mem_box1 hm rfl rfl rfl rfl ?_); clear hm; intro n w hm) | ((with_reducible refine ga ?_); refine mem_alloc hm rfl rfl ?_; clear hm; intro n w hm) | ((with_reducible refine wp_loop_rounds 18 ?_); rw [rounds_succ]) | (with_reducible rw [rounds_succ]) | go_values | go_skip | go_guarded | go_step | go_upon | ((with_reducible refine bp ?_); go_back) | ((with_reducible refine up ?_); first | (simp only [Int.not_lt, Int.not_le] at *; go_simp) | (go_values <;> (try go_simp)) | (go_ite <;> go_prune <;> (try go_simp)) | (split <;> (first | (rename_i hx; exact (hx _ rfl).elim) | go_prune))))
  (try simp only [Exit.inBlock, Exit.then])
  (first | (refine ret1 rfl rfl (by (first | exact Res.tmp rfl | exact Res.atw hm rfl | exact Res.at hm rfl)) ?_) | (refine ret2 rfl rfl (by (first | exact Res.tmp rfl | exact Res.atw hm rfl | exact Res.at hm rfl)) (by (first | exact Res.tmp rfl | exact Res.atw hm rfl | exact Res.at hm rfl)) ?_) | (refine ret3 rfl rfl (by (first | exact Res.tmp rfl | exact Res.atw hm rfl | exact Res.at hm rfl)) (by (first | exact Res.tmp rfl | exact Res.atw hm rfl | exact Res.at hm rfl)) (by (first | exact Res.tmp rfl | exact Res.atw hm rfl | exact Res.at hm rfl)) ?_) | (refine ret4 rfl rfl (by (first | exact Res.tmp rfl | exact Res.atw hm rfl | exact Res.at hm rfl)) (by (first | exact Res.tmp rfl | exact Res.atw hm rfl | exact Res.at hm rfl)) (by (first | exact Res.tmp rfl | exact Res.atw hm rfl | exact Res.at hm rfl)) (by (first | exact Res.tmp rfl | exact Res.atw hm rfl | exact Res.at hm rfl)) ?_) | fail "ret")
  exact ⟨rfl, hm.drop (by first | exact .cons _ (.cons _ (List.Sublist.refl _)) | exact .cons _ (List.Sublist.refl _))⟩
/-- Those of the first n rules by which a slide goes as by the first one. -/
def agreeK (d : Nat) (b : List Int) : Nat → List Int
  | 0 => []
  | n + 1 => agreeK d b n ++ if slideB ((n : Int) + 1) d b = slideB 1 d b then [(n : Int) + 1] else []
theorem agreeK_succ (d : Nat) (b : List Int) (n : Nat) : agreeK d b (n + 1) = agreeK d b n ++ if slideB ((n : Int) + 1) d b = slideB 1 d b then [(n : Int) + 1] else [] := rfl
theorem agreeK_len (d : Nat) (b : List Int) : ∀ n, (agreeK d b n).length ≤ n
  | 0 => by simp [agreeK]
  | n + 1 => by
    have := agreeK_len d b n
    simp only [agreeK, List.length_append]
    split <;> simp <;> omega
end Go.Proofs.Ytelnajpjanmliaa
