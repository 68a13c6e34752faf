/-
  Walks of the draws of texts.
-/
import Derived.Test.YtjmolkamaeonmaaDoorCode
import Derived.Test.YtjmolkamaeonmaaDoorStr
set_option linter.unusedVariables false
set_option linter.unusedSimpArgs false
namespace Go.Proofs.YtjmolkamaeonmaaDoor
open Go.RowKit Slm
theorem spec_of {w0 w : World} {σ : List Blk} {nc cap g2 j2 cap2 : Nat} {g : Option Addr} {at9 : Nat} {sd : Int} {l : List Nat} {more2 : List Value} (hl : l.length ≤ 70000) (hb : ∀ x ∈ l, x < 256) (hat : at9 ≤ 900000) (hsd : 0 ≤ sd ∧ sd < 18446744073709551616) (xs : List (List UInt8)) (hx0 : 0 < xs.length) (hx1 : xs.length ≤ 1000) (hm : Mem w0 w (curB nc g l.length cap at9 sd :: σ)) [hA : OldCode w0 g l] [hB : At σ g2 (xs.map (fun s => Value.string (bs s)) ++ more2) 9 j2] :
    Moves Tryd.prog 76 #[.pointer (some ⟨nc, 0, none⟩), .slice (some ⟨g2, 0, none⟩) xs.length cap2] w0 w σ nc g l.length cap at9 2 76 (fun v => ∃ x ∈ xs, v = (fun s => Value.string (bs s)) x) := by
  have hP := spec_pick (cap := cap) hl hb hat hsd (xs.length : Int) hm
  have hv := fun (k : Nat) (h : k < xs.length) => (show (xs.map (fun s => Value.string (bs s)) ++ more2)[k]? = some ((fun s => Value.string (bs s)) xs[k]) by rw [List.getElem?_append_left (by simpa using h), List.getElem?_map, List.getElem?_eq_getElem h]; rfl)
  have hcl : (xs.map (fun s => Value.string (bs s)) ++ more2).length = xs.length + more2.length := by rw [List.length_append, List.length_map]
  unfold Moves
  unfold curB at *
  have HP := Lib.hid hP
  have HV := Lib.hid hv
  clear hP hb hv
  generalize xs.map (fun s => Value.string (bs s)) ++ more2 = cs at *
  go_enter Tryd.func76, Tryd.ntmps76
  repeat' (first | (go_at_call 61; refine Calls.mono HP.out ?_; intro e w ⟨x9, at8, sd9, he, ⟨hx90, hx91⟩, ha8, hsd9, hm⟩; subst he; (try simp only []); obtain ⟨k, rfl⟩ := Int.eq_ofNat_of_zero_le hx90; have hk : k < xs.length := (by omega); have hvk := HV.out k hk) | ((with_reducible refine gix ?_); first | refine mix rfl rfl rfl rfl ?_ | refine mixr rfl rfl rfl rfl ?_; (try simp only [Int.toNat_zero, Int.reduceToNat, Nat.reduceMul, Nat.zero_mul, Nat.one_mul, List.drop_succ_cons, List.drop_zero, List.take_succ_cons, List.take_zero])) | ((with_reducible refine gl ?_); first | refine ml hm rfl rfl rfl ?_ | refine mlw hm rfl rfl rfl ?_ | (refine mlr hm rfl rfl rfl ?_; try simp only [List.drop_succ_cons, List.drop_zero, List.take_succ_cons, List.take_zero])) | ((with_reducible refine gs ?_); (first | refine ms hm rfl rfl rfl rfl rfl ?_ | refine msw hm rfl rfl rfl rfl ?_ | refine msr hm rfl rfl rfl rfl ?_); clear hm; intro w hm; (try simp only [splice, List.set_cons_zero, List.set_cons_succ] at hm)) | ((with_reducible refine gb ?_); (first | refine mem_box hm rfl rfl rfl ?_ | refine mem_box1 hm rfl rfl rfl rfl ?_); clear hm; intro n w hm) | ((with_reducible refine ga ?_); refine mem_alloc hm rfl rfl ?_; clear hm; intro n w hm) | go_values | go_skip | go_guarded | go_step | go_upon | ((with_reducible refine bp ?_); go_back) | ((with_reducible refine up ?_); first | (simp only [Int.not_lt, Int.not_le] at *; go_simp) | (go_values <;> (try go_simp)) | (go_ite <;> go_prune <;> (try go_simp)) | (split <;> (first | (rename_i hx; exact (hx _ rfl).elim) | go_prune))))
  (try simp only [Exit.inBlock, Exit.then])
  (first | (refine ret1 rfl rfl (by (first | exact Res.tmp rfl | exact Res.atw hm rfl | exact Res.at hm rfl)) ?_) | (refine ret2 rfl rfl (by (first | exact Res.tmp rfl | exact Res.atw hm rfl | exact Res.at hm rfl)) (by (first | exact Res.tmp rfl | exact Res.atw hm rfl | exact Res.at hm rfl)) ?_) | (refine ret3 rfl rfl (by (first | exact Res.tmp rfl | exact Res.atw hm rfl | exact Res.at hm rfl)) (by (first | exact Res.tmp rfl | exact Res.atw hm rfl | exact Res.at hm rfl)) (by (first | exact Res.tmp rfl | exact Res.atw hm rfl | exact Res.at hm rfl)) ?_) | (refine ret4 rfl rfl (by (first | exact Res.tmp rfl | exact Res.atw hm rfl | exact Res.at hm rfl)) (by (first | exact Res.tmp rfl | exact Res.atw hm rfl | exact Res.at hm rfl)) (by (first | exact Res.tmp rfl | exact Res.atw hm rfl | exact Res.at hm rfl)) (by (first | exact Res.tmp rfl | exact Res.atw hm rfl | exact Res.at hm rfl)) ?_) | fail "ret")
  exact ⟨_, at8, sd9, rfl, ⟨_, List.getElem_mem hk, rfl⟩, ha8, hsd9, hm⟩
/-- Texts, none longer than some length. -/
def IsTxt (M : Nat) (v : Value) : Prop := ∃ s : List UInt8, v = .string (bs s) ∧ s.length ≤ M
theorem spec_ofV {w0 w : World} {σ : List Blk} {nc cap g2 j2 cap2 len : Nat} {g : Option Addr} {at9 : Nat} {sd : Int} {l : List Nat} (M : Nat) (hl : l.length ≤ 70000) (hb : ∀ x ∈ l, x < 256) (hat : at9 ≤ 900000) (hsd : 0 ≤ sd ∧ sd < 18446744073709551616) (xs : List Value) (hlen : xs.length = len) (hx0 : 0 < len) (hx1 : len ≤ 1000) (hxs : ∀ v ∈ xs, IsTxt M v) (hm : Mem w0 w (⟨nc, [.slice g l.length cap, iv at9, .int .u64 sd], 76⟩ :: σ)) [hA : OldCode w0 g l] [hB : At σ g2 xs 9 j2] :
    Moves Tryd.prog 76 #[.pointer (some ⟨nc, 0, none⟩), .slice (some ⟨g2, 0, none⟩) len cap2] w0 w σ nc g l.length cap at9 2 76 (IsTxt M) := by
  have hP := spec_pick (cap := cap) hl hb hat hsd (len : Int) hm
  have hv : ∀ k : Nat, k < len → ∃ s : List UInt8, xs[k]? = some (.string (bs s)) ∧ s.length ≤ M := fun k h => by
    have hk : k < xs.length := by omega
    obtain ⟨s, hs, hsl⟩ := hxs _ (List.getElem_mem hk)
    exact ⟨s, by rw [List.getElem?_eq_getElem hk, hs], hsl⟩
  unfold Moves
  unfold curB at *
  have HP := Lib.hid hP
  have HV := Lib.hid hv
  clear hP hb hv hxs
  go_enter Tryd.func76, Tryd.ntmps76
  repeat' (first | (go_at_call 61; refine Calls.mono HP.out ?_; intro e w ⟨x9, at8, sd9, he, ⟨hx90, hx91⟩, ha8, hsd9, hm⟩; subst he; (try simp only []); obtain ⟨k, rfl⟩ := Int.eq_ofNat_of_zero_le hx90; have hk : k < len := (by omega); obtain ⟨s9, hvk, hs9⟩ := HV.out k hk) | ((with_reducible refine gix ?_); first | refine mix rfl rfl rfl rfl ?_ | refine mixr rfl rfl rfl rfl ?_; (try simp only [Int.toNat_zero, Int.reduceToNat, Nat.reduceMul, Nat.zero_mul, Nat.one_mul, List.drop_succ_cons, List.drop_zero, List.take_succ_cons, List.take_zero])) | ((with_reducible refine gl ?_); first | refine ml hm rfl rfl rfl ?_ | refine mlw hm rfl rfl rfl ?_ | (refine mlr hm rfl rfl rfl ?_; try simp only [List.drop_succ_cons, List.drop_zero, List.take_succ_cons, List.take_zero])) | ((with_reducible refine gs ?_); (first | refine ms hm rfl rfl rfl rfl rfl ?_ | refine msw hm rfl rfl rfl rfl ?_ | refine msr hm rfl rfl rfl rfl ?_); clear hm; intro w hm; (try simp only [splice, List.set_cons_zero, List.set_cons_succ] at hm)) | ((with_reducible refine gb ?_); (first | refine mem_box hm rfl rfl rfl ?_ | refine mem_box1 hm rfl rfl rfl rfl ?_); clear hm; intro n w hm) | ((with_reducible refine ga ?_); refine mem_alloc hm rfl rfl ?_; clear hm; intro n w hm) | go_values | go_skip | go_guarded | go_step | go_upon | ((with_reducible refine bp ?_); go_back) | ((with_reducible refine up ?_); first | (simp only [Int.not_lt, Int.not_le] at *; go_simp) | (go_values <;> (try go_simp)) | (go_ite <;> go_prune <;> (try go_simp)) | (split <;> (first | (rename_i hx; exact (hx _ rfl).elim) | go_prune))))
  (try simp only [Exit.inBlock, Exit.then])
  (first | (refine ret1 rfl rfl (by (first | exact Res.tmp rfl | exact Res.atw hm rfl | exact Res.at hm rfl)) ?_) | (refine ret2 rfl rfl (by (first | exact Res.tmp rfl | exact Res.atw hm rfl | exact Res.at hm rfl)) (by (first | exact Res.tmp rfl | exact Res.atw hm rfl | exact Res.at hm rfl)) ?_) | (refine ret3 rfl rfl (by (first | exact Res.tmp rfl | exact Res.atw hm rfl | exact Res.at hm rfl)) (by (first | exact Res.tmp rfl | exact Res.atw hm rfl | exact Res.at hm rfl)) (by (first | exact Res.tmp rfl | exact Res.atw hm rfl | exact Res.at hm rfl)) ?_) | (refine ret4 rfl rfl (by (first | exact Res.tmp rfl | exact Res.atw hm rfl | exact Res.at hm rfl)) (by (first | exact Res.tmp rfl | exact Res.atw hm rfl | exact Res.at hm rfl)) (by (first | exact Res.tmp rfl | exact Res.atw hm rfl | exact Res.at hm rfl)) (by (first | exact Res.tmp rfl | exact Res.atw hm rfl | exact Res.at hm rfl)) ?_) | fail "ret")
  exact ⟨_, at8, sd9, rfl, ⟨s9, rfl, hs9⟩, ha8, hsd9, hm⟩
end Go.Proofs.YtjmolkamaeonmaaDoor
