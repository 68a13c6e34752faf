/-
  Walks of what is asked of replays.
-/
import Derived.Test.YthcjokgjiknheaaBoards
import Derived.Test.YthcjokgjiknheaaRep2
set_option linter.unusedVariables false
set_option linter.unusedSimpArgs false
namespace Go.Proofs.Ythcjokgjiknheaa
open Go.RowKit Slm
section
variable {P : Program} {w0 w : World} {σ : List Blk}
/-- A callee that returns a slice of its own among other things. -/
theorem mem_callF {f : FuncId} {args : Array Value} {R : Ending → World → Prop} {T : TypeId} {s : Nat} {xs : List Value} {F : Value → Value} (h : Calls P f args w fun e w' => ∃ v, e = .returned (F v) ∧ Sl w0 w' v T s xs σ)
    (k : ∀ g more len cap w', Mem w0 w' (⟨g, xs ++ more, T⟩ :: σ) → Fit (xs ++ more) s len cap → xs.length = len * s → R (.returned (F (.slice (some ⟨g, 0, none⟩) len cap))) w') : Calls P f args w R :=
  h.mono fun e w' ⟨v, he, g, more, len, cap, hv, h1, h2, h3⟩ => by subst he; subst hv; exact k g more len cap w' h1 h2 h3
theorem mem_callNF {f : FuncId} {args : Array Value} {R : Ending → World → Prop} {T : TypeId} {s : Nat} {xs : List Value} {F : Value → Value} (hm : Mem w0 w σ) (h : Calls P f args w fun e w' => ∃ v, e = .returned (F v) ∧ Sl w w' v T s xs [])
    (k : ∀ g more len cap w', Mem w0 w' (⟨g, xs ++ more, T⟩ :: σ) → Fit (xs ++ more) s len cap → xs.length = len * s → R (.returned (F (.slice (some ⟨g, 0, none⟩) len cap))) w') : Calls P f args w R :=
  mem_callF (h.mono fun e w' ⟨v, he, hs⟩ => ⟨v, he, by simpa using Sl.lift hm hs⟩) k
end
theorem spec_IsReplay {w0 w : World} {σ : List Blk} {g i cap : Nat} {more : List Value} (b : List Int) (hl : b.length = 16) (S : List Stp) (hm : Mem w0 w σ) [At σ g ((S.flatMap stI).map iv ++ more) 55 i] :
    Calls Try.prog 14 #[.agg (b.map iv ++ [Value.slice (some ⟨g, 0, none⟩) S.length cap]).toArray] w fun e w' => e = .returned (.bool (valR b S)) ∧ Mem w0 w' σ := by
  have hA := fun (w : World) (τ : List Blk) (j : Nat) (hm : Mem w0 w τ) (h : At τ g ((S.flatMap stI).map iv ++ more) 55 j) => spec_l11Boards (g := g) (more := more) (i := j) (cap := cap) b hl S hm
  generalize valR b S = q at *
  generalize sumR b S = sm at *
  generalize ((bdsR b S).flatten).map iv = X at *
  generalize hcs : (S.flatMap stI).map iv ++ more = cs at *
  have h16 : ((b.map iv ++ [Value.slice (some ⟨g, 0, none⟩) S.length cap]).take 16) = b.map iv := List.take_left' (by simpa using hl)
  have hv16 : (b.map iv ++ [Value.slice (some ⟨g, 0, none⟩) S.length cap])[16]? = some (Value.slice (some ⟨g, 0, none⟩) S.length cap) := by rw [List.getElem?_append_right (by simp [hl])]; simp [hl]
  have hl17 : (b.map iv ++ [Value.slice (some ⟨g, 0, none⟩) S.length cap]).length = 17 := by simp [hl]
  generalize b.map iv ++ [Value.slice (some ⟨g, 0, none⟩) S.length cap] = rc at *
  have HA := Lib.hid hA
  clear hA hcs
  go_enter Try.func14, Try.ntmps14
  repeat' (first | (go_at_call 43; refine mem_callF (F := fun u => .tuple #[u, iv sm, .bool q]) (HA.out _ _ _ hm inferInstance) ?_; clear hm; intro g2 more2 len2 cap2 w hm hf hx; (try simp only [])) | ((with_reducible refine gix ?_); first | refine mix rfl rfl rfl rfl ?_ | refine mixr rfl rfl rfl rfl ?_; (try simp only [Int.toNat_zero, Int.reduceToNat, Nat.reduceMul, Nat.zero_mul, Nat.one_mul, List.drop_succ_cons, List.drop_zero, List.take_succ_cons, List.take_zero])) | ((with_reducible refine gl ?_); first | refine ml hm rfl rfl rfl ?_ | refine mlw hm rfl rfl rfl ?_ | (refine mlr hm rfl rfl rfl ?_; try simp only [List.drop_succ_cons, List.drop_zero, List.take_succ_cons, List.take_zero])) | ((with_reducible refine gs ?_); (first | refine ms hm rfl rfl rfl rfl rfl ?_ | refine msw hm rfl rfl rfl rfl ?_ | refine msr hm rfl rfl rfl rfl ?_); clear hm; intro w hm; (try simp only [splice, List.set_cons_zero, List.set_cons_succ] at hm)) | ((with_reducible refine gb ?_); (first | refine mem_box hm rfl rfl rfl ?_ | refine mem_box1 hm rfl rfl rfl rfl ?_); clear hm; intro n w hm) | ((with_reducible refine ga ?_); refine mem_alloc hm rfl rfl ?_; clear hm; intro n w hm) | go_values | go_skip | go_guarded | go_step | go_upon | ((with_reducible refine bp ?_); go_back) | ((with_reducible refine up ?_); first | (simp only [Int.not_lt, Int.not_le] at *; go_simp) | (go_values <;> (try go_simp)) | (go_ite <;> go_prune <;> (try go_simp)) | (split <;> (first | (rename_i hx; exact (hx _ rfl).elim) | go_prune))))
  (try simp only [Exit.inBlock, Exit.then])
  (first | (refine ret1 rfl rfl (by (first | exact Res.tmp rfl | exact Res.atw hm rfl | exact Res.at hm rfl)) ?_) | (refine ret2 rfl rfl (by (first | exact Res.tmp rfl | exact Res.atw hm rfl | exact Res.at hm rfl)) (by (first | exact Res.tmp rfl | exact Res.atw hm rfl | exact Res.at hm rfl)) ?_) | (refine ret3 rfl rfl (by (first | exact Res.tmp rfl | exact Res.atw hm rfl | exact Res.at hm rfl)) (by (first | exact Res.tmp rfl | exact Res.atw hm rfl | exact Res.at hm rfl)) (by (first | exact Res.tmp rfl | exact Res.atw hm rfl | exact Res.at hm rfl)) ?_) | (refine ret4 rfl rfl (by (first | exact Res.tmp rfl | exact Res.atw hm rfl | exact Res.at hm rfl)) (by (first | exact Res.tmp rfl | exact Res.atw hm rfl | exact Res.at hm rfl)) (by (first | exact Res.tmp rfl | exact Res.atw hm rfl | exact Res.at hm rfl)) (by (first | exact Res.tmp rfl | exact Res.atw hm rfl | exact Res.at hm rfl)) ?_) | fail "ret")
  exact ⟨rfl, hm.drop (by first | exact List.sublist_cons_self _ _ | exact .cons _ (List.sublist_cons_self _ _))⟩
theorem impl_IsReplay {w0 w : World} {σ : List Blk} {g i cap : Nat} {more : List Value} (b : List Int) (hl : b.length = 16) (S : List Stp) (hm : Mem w0 w σ) [At σ g ((S.flatMap stI).map iv ++ more) 55 i] :
    Calls Try.prog 16 #[.agg (b.map iv ++ [Value.slice (some ⟨g, 0, none⟩) S.length cap]).toArray] w fun e w' => e = .returned (.bool (valR b S)) ∧ Mem w0 w' σ := by
  cases hq : valR b S
  · have hA := fun (w : World) (τ : List Blk) (j : Nat) (hm : Mem w0 w τ) (h : At τ g ((S.flatMap stI).map iv ++ more) 55 j) => impl_boards_bad (g := g) (more := more) (i := j) (cap := cap) b hl S hm hq
    generalize hcs : (S.flatMap stI).map iv ++ more = cs at *
    have h16 : ((b.map iv ++ [Value.slice (some ⟨g, 0, none⟩) S.length cap]).take 16) = b.map iv := List.take_left' (by simpa using hl)
    have hv16 : (b.map iv ++ [Value.slice (some ⟨g, 0, none⟩) S.length cap])[16]? = some (Value.slice (some ⟨g, 0, none⟩) S.length cap) := by rw [List.getElem?_append_right (by simp [hl])]; simp [hl]
    have hl17 : (b.map iv ++ [Value.slice (some ⟨g, 0, none⟩) S.length cap]).length = 17 := by simp [hl]
    generalize b.map iv ++ [Value.slice (some ⟨g, 0, none⟩) S.length cap] = rc at *
    have HA := Lib.hid hA
    clear hA hcs hq
    go_enter Try.func16, Try.ntmps16
    repeat' (first | (go_at_call 45; refine mem_callM (HA.out _ _ _ hm inferInstance) ?_; clear hm; intro w hm; (try simp only [])) | ((with_reducible refine gix ?_); first | refine mix rfl rfl rfl rfl ?_ | refine mixr rfl rfl rfl rfl ?_; (try simp only [Int.toNat_zero, Int.reduceToNat, Nat.reduceMul, Nat.zero_mul, Nat.one_mul, List.drop_succ_cons, List.drop_zero, List.take_succ_cons, List.take_zero])) | ((with_reducible refine gl ?_); first | refine ml hm rfl rfl rfl ?_ | refine mlw hm rfl rfl rfl ?_ | (refine mlr hm rfl rfl rfl ?_; try simp only [List.drop_succ_cons, List.drop_zero, List.take_succ_cons, List.take_zero])) | ((with_reducible refine gs ?_); (first | refine ms hm rfl rfl rfl rfl rfl ?_ | refine msw hm rfl rfl rfl rfl ?_ | refine msr hm rfl rfl rfl rfl ?_); clear hm; intro w hm; (try simp only [splice, List.set_cons_zero, List.set_cons_succ] at hm)) | ((with_reducible refine gb ?_); (first | refine mem_box hm rfl rfl rfl ?_ | refine mem_box1 hm rfl rfl rfl rfl ?_); clear hm; intro n w hm) | ((with_reducible refine ga ?_); refine mem_alloc hm rfl rfl ?_; clear hm; intro n w hm) | go_values | go_skip | go_guarded | go_step | go_upon | ((with_reducible refine bp ?_); go_back) | ((with_reducible refine up ?_); first | (simp only [Int.not_lt, Int.not_le] at *; go_simp) | (go_values <;> (try go_simp)) | (go_ite <;> go_prune <;> (try go_simp)) | (split <;> (first | (rename_i hx; exact (hx _ rfl).elim) | go_prune))))
    (try simp only [Exit.inBlock, Exit.then])
    (first | (refine ret1 rfl rfl (by (first | exact Res.tmp rfl | exact Res.atw hm rfl | exact Res.at hm rfl)) ?_) | (refine ret2 rfl rfl (by (first | exact Res.tmp rfl | exact Res.atw hm rfl | exact Res.at hm rfl)) (by (first | exact Res.tmp rfl | exact Res.atw hm rfl | exact Res.at hm rfl)) ?_) | (refine ret3 rfl rfl (by (first | exact Res.tmp rfl | exact Res.atw hm rfl | exact Res.at hm rfl)) (by (first | exact Res.tmp rfl | exact Res.atw hm rfl | exact Res.at hm rfl)) (by (first | exact Res.tmp rfl | exact Res.atw hm rfl | exact Res.at hm rfl)) ?_) | (refine ret4 rfl rfl (by (first | exact Res.tmp rfl | exact Res.atw hm rfl | exact Res.at hm rfl)) (by (first | exact Res.tmp rfl | exact Res.atw hm rfl | exact Res.at hm rfl)) (by (first | exact Res.tmp rfl | exact Res.atw hm rfl | exact Res.at hm rfl)) (by (first | exact Res.tmp rfl | exact Res.atw hm rfl | exact Res.at hm rfl)) ?_) | fail "ret")
    exact ⟨rfl, hm.drop (by first | exact List.Sublist.refl _ | exact List.sublist_cons_self _ _)⟩
  · have hA := fun (w : World) (τ : List Blk) (j : Nat) (hm : Mem w0 w τ) (h : At τ g ((S.flatMap stI).map iv ++ more) 55 j) => impl_boards (g := g) (more := more) (i := j) (cap := cap) b hl S hm hq
    generalize ((bdsK b S S.length).flatten).map iv = X at *
    generalize hcs : (S.flatMap stI).map iv ++ more = cs at *
    have h16 : ((b.map iv ++ [Value.slice (some ⟨g, 0, none⟩) S.length cap]).take 16) = b.map iv := List.take_left' (by simpa using hl)
    have hv16 : (b.map iv ++ [Value.slice (some ⟨g, 0, none⟩) S.length cap])[16]? = some (Value.slice (some ⟨g, 0, none⟩) S.length cap) := by rw [List.getElem?_append_right (by simp [hl])]; simp [hl]
    have hl17 : (b.map iv ++ [Value.slice (some ⟨g, 0, none⟩) S.length cap]).length = 17 := by simp [hl]
    generalize b.map iv ++ [Value.slice (some ⟨g, 0, none⟩) S.length cap] = rc at *
    have HA := Lib.hid hA
    clear hA hcs hq
    go_enter Try.func16, Try.ntmps16
    repeat' (first | (go_at_call 45; refine mem_callF (F := fun u => .tuple #[u, .bool true]) (HA.out _ _ _ hm inferInstance) ?_; clear hm; intro g2 more2 len2 cap2 w hm hf hx; (try simp only [])) | ((with_reducible refine gix ?_); first | refine mix rfl rfl rfl rfl ?_ | refine mixr rfl rfl rfl rfl ?_; (try simp only [Int.toNat_zero, Int.reduceToNat, Nat.reduceMul, Nat.zero_mul, Nat.one_mul, List.drop_succ_cons, List.drop_zero, List.take_succ_cons, List.take_zero])) | ((with_reducible refine gl ?_); first | refine ml hm rfl rfl rfl ?_ | refine mlw hm rfl rfl rfl ?_ | (refine mlr hm rfl rfl rfl ?_; try simp only [List.drop_succ_cons, List.drop_zero, List.take_succ_cons, List.take_zero])) | ((with_reducible refine gs ?_); (first | refine ms hm rfl rfl rfl rfl rfl ?_ | refine msw hm rfl rfl rfl rfl ?_ | refine msr hm rfl rfl rfl rfl ?_); clear hm; intro w hm; (try simp only [splice, List.set_cons_zero, List.set_cons_succ] at hm)) | ((with_reducible refine gb ?_); (first | refine mem_box hm rfl rfl rfl ?_ | refine mem_box1 hm rfl rfl rfl rfl ?_); clear hm; intro n w hm) | ((with_reducible refine ga ?_); refine mem_alloc hm rfl rfl ?_; clear hm; intro n w hm) | go_values | go_skip | go_guarded | go_step | go_upon | ((with_reducible refine bp ?_); go_back) | ((with_reducible refine up ?_); first | (simp only [Int.not_lt, Int.not_le] at *; go_simp) | (go_values <;> (try go_simp)) | (go_ite <;> go_prune <;> (try go_simp)) | (split <;> (first | (rename_i hx; exact (hx _ rfl).elim) | go_prune))))
    (try simp only [Exit.inBlock, Exit.then])
    (first | (refine ret1 rfl rfl (by (first | exact Res.tmp rfl | exact Res.atw hm rfl | exact Res.at hm rfl)) ?_) | (refine ret2 rfl rfl (by (first | exact Res.tmp rfl | exact Res.atw hm rfl | exact Res.at hm rfl)) (by (first | exact Res.tmp rfl | exact Res.atw hm rfl | exact Res.at hm rfl)) ?_) | (refine ret3 rfl rfl (by (first | exact Res.tmp rfl | exact Res.atw hm rfl | exact Res.at hm rfl)) (by (first | exact Res.tmp rfl | exact Res.atw hm rfl | exact Res.at hm rfl)) (by (first | exact Res.tmp rfl | exact Res.atw hm rfl | exact Res.at hm rfl)) ?_) | (refine ret4 rfl rfl (by (first | exact Res.tmp rfl | exact Res.atw hm rfl | exact Res.at hm rfl)) (by (first | exact Res.tmp rfl | exact Res.atw hm rfl | exact Res.at hm rfl)) (by (first | exact Res.tmp rfl | exact Res.atw hm rfl | exact Res.at hm rfl)) (by (first | exact Res.tmp rfl | exact Res.atw hm rfl | exact Res.at hm rfl)) ?_) | fail "ret")
    exact ⟨rfl, hm.drop (by first | exact List.sublist_cons_self _ _ | exact .cons _ (List.sublist_cons_self _ _))⟩
end Go.Proofs.Ythcjokgjiknheaa
