/-
  Walks of the texts of boards.
-/
import Derived.Test.YthcjokgjiknheaaStr
import Derived.Test.YthcjokgjiknheaaLine
import Derived.Test.YthcjokgjiknheaaShelf
import Derived.Test.YthcjokgjiknheaaConv
import Derived.Test.YthcjokgjiknheaaInts
import Derived.Lib.Join
set_option linter.unusedVariables false
set_option linter.unusedSimpArgs false
namespace Go.Proofs.Ythcjokgjiknheaa
open Go.RowKit Slm
def svS (p : List UInt8) : Value := .string (bs p)
/-- The letter of a tile, the text of a row and of a board. -/
def letter (t : Nat) : UInt8 := if t = 0 then 46 else UInt8.ofNat (96 + t)
theorem letter_at (t : Nat) (h : t ≤ 17) : (⟨#[46, 97, 98, 99, 100, 101, 102, 103, 104, 105, 106, 107, 108, 109, 110, 111, 112, 113]⟩ : ByteArray).extract t (t + 1) = bs [letter t] := by
  obtain rfl | rfl | rfl | rfl | rfl | rfl | rfl | rfl | rfl | rfl | rfl | rfl | rfl | rfl | rfl | rfl | rfl | rfl : t = 0 ∨ t = 1 ∨ t = 2 ∨ t = 3 ∨ t = 4 ∨ t = 5 ∨ t = 6 ∨ t = 7 ∨ t = 8 ∨ t = 9 ∨ t = 10 ∨ t = 11 ∨ t = 12 ∨ t = 13 ∨ t = 14 ∨ t = 15 ∨ t = 16 ∨ t = 17 := by omega
  all_goals rfl
def rowL (b : List Int) (k j : Nat) : List UInt8 := (List.range j).map fun i => letter (atL b (4 * k + i)).toNat
theorem rowL_len (b : List Int) (k j : Nat) : (rowL b k j).length = j := by simp [rowL]
theorem rowL_succ (b : List Int) (k j : Nat) : rowL b k (j + 1) = rowL b k j ++ [letter (atL b (4 * k + j)).toNat] := by simp [rowL, List.range_succ]
def sepL (k : Nat) : List UInt8 := if k = 0 then [] else [47]
def textL (b : List Int) : Nat → List UInt8
  | 0 => []
  | k + 1 => textL b k ++ sepL k ++ rowL b k 4
theorem sepL_len (k : Nat) : (sepL k).length ≤ 1 := by unfold sepL; split <;> simp
theorem textL_len (b : List Int) : ∀ k, (textL b k).length ≤ 5 * k
  | 0 => by simp [textL]
  | k + 1 => by
    have := textL_len b k
    have := sepL_len k
    simp only [textL, List.length_append, rowL_len]; omega
theorem join_text (b : List Int) : Lib.join [rowL b 0 4, rowL b 1 4, rowL b 2 4, rowL b 3 4] [47] = textL b 4 := by
  simp [Lib.join, List.intercalate, textL, sepL]
set_option maxHeartbeats 1000000 in
theorem spec_l2Text (b : List Int) (hl : b.length = 16) (hok : okL b = true) (w0 : World) : Calls Try.prog 89 #[.agg (nums b)] w0 fun e w' => e = .returned (.string (bs (textL b 4))) ∧ Below w0.heap.size w0 w' := by
  have HO := Lib.hid hok
  clear hok
  go_enter Try.func89, Try.ntmps89
  have hm := Mem.start w0
  simp only [nums_map]
  repeat' (first  | ((with_reducible refine gix ?_); first | refine mix rfl rfl rfl rfl ?_ | refine mixr rfl rfl rfl rfl ?_; (try simp only [Int.toNat_zero, Int.reduceToNat, Nat.reduceMul, Nat.zero_mul, Nat.one_mul, List.drop_succ_cons, List.drop_zero, List.take_succ_cons, List.take_zero])) | ((with_reducible refine gl ?_); first | refine ml hm rfl rfl rfl ?_ | refine mlw hm rfl rfl rfl ?_ | (refine mlr hm rfl rfl rfl ?_; try simp only [List.drop_succ_cons, List.drop_zero, List.take_succ_cons, List.take_zero])) | ((with_reducible refine gs ?_); (first | refine ms hm rfl rfl rfl rfl rfl ?_ | refine msw hm rfl rfl rfl rfl ?_ | refine msr hm rfl rfl rfl rfl ?_); clear hm; intro w hm; (try simp only [splice, List.set_cons_zero, List.set_cons_succ] at hm)) | ((with_reducible refine gb ?_); (first | refine mem_box hm rfl rfl rfl ?_ | refine mem_box1 hm rfl rfl rfl rfl ?_); clear hm; intro n w hm) | ((with_reducible refine ga ?_); refine mem_alloc hm rfl rfl ?_; clear hm; intro n w hm) | go_values | go_skip | go_guarded | go_step | go_upon | ((with_reducible refine bp ?_); go_back) | ((with_reducible refine up ?_); first | (simp only [Int.not_lt, Int.not_le] at *; go_simp) | (go_values <;> (try go_simp)) | (go_ite <;> go_prune <;> (try go_simp)) | (split <;> (first | (rename_i hx; exact (hx _ rfl).elim) | go_prune))))
  obtain ⟨σ, hσ, hm⟩ := Mem.sig hm
  go_loopw [3, 4, 5, 6] (fun s r _ _ wr => ∃ k : Nat, k ≤ 4 ∧ r = iv k ∧ s = .string (bs (textL b k)) ∧ Mem w0 wr σ) (fun _ r _ _ _ => 4 - (intOf r).toNat)
  case atStart => exact ⟨0, by omega, rfl, rfl, hm⟩
  case round =>
    clear hm
    obtain ⟨k, hk, rfl, rfl, hm⟩ := hrel
    have htl := textL_len b k
    have hts := bs_size (textL b k)
    by_cases hlt : k < 4
    · have hsl := sepL_len k
      have hk4 : (k : Int) < 4 := by omega
      have hpre : (textL b k ++ sepL k).length ≤ 16 := by rw [List.length_append]; omega
      have hstart : ∀ s0 : ByteArray, s0 = (if 0 < k then bs (textL b k) ++ (⟨#[47]⟩ : ByteArray) else bs (textL b k)) → s0 = bs (textL b k ++ sepL k ++ rowL b k 0) := by
        intro s0 h
        subst h
        by_cases h0 : k = 0
        · subst h0; simp [sepL, rowL]
        · rw [if_pos (by omega), show (⟨#[47]⟩ : ByteArray) = bs [47] from rfl, bs_app, sepL, if_neg h0]; simp [rowL]
      have HST := Lib.hid hstart
      clear hstart
      have hend : textL b (k + 1) = textL b k ++ sepL k ++ rowL b k 4 := rfl
      have HEN := Lib.hid hend
      clear hend
      by_cases h0 : 0 < k
      all_goals
        repeat' (first  | ((with_reducible refine gix ?_); first | refine mix rfl rfl rfl rfl ?_ | refine mixr rfl rfl rfl rfl ?_; (try simp only [Int.toNat_zero, Int.reduceToNat, Nat.reduceMul, Nat.zero_mul, Nat.one_mul, List.drop_succ_cons, List.drop_zero, List.take_succ_cons, List.take_zero])) | ((with_reducible refine gl ?_); first | refine ml hm rfl rfl rfl ?_ | refine mlw hm rfl rfl rfl ?_ | (refine mlr hm rfl rfl rfl ?_; try simp only [List.drop_succ_cons, List.drop_zero, List.take_succ_cons, List.take_zero])) | ((with_reducible refine gs ?_); (first | refine ms hm rfl rfl rfl rfl rfl ?_ | refine msw hm rfl rfl rfl rfl ?_ | refine msr hm rfl rfl rfl rfl ?_); clear hm; intro w hm; (try simp only [splice, List.set_cons_zero, List.set_cons_succ] at hm)) | ((with_reducible refine gb ?_); (first | refine mem_box hm rfl rfl rfl ?_ | refine mem_box1 hm rfl rfl rfl rfl ?_); clear hm; intro n w hm) | ((with_reducible refine ga ?_); refine mem_alloc hm rfl rfl ?_; clear hm; intro n w hm) | go_values | go_skip | go_guarded | go_step | go_upon | ((with_reducible refine bp ?_); go_back) | ((with_reducible refine up ?_); first | (simp only [Int.not_lt, Int.not_le] at *; go_simp) | (go_values <;> (try go_simp)) | (go_ite <;> go_prune <;> (try go_simp)) | (split <;> (first | (rename_i hx; exact (hx _ rfl).elim) | go_prune))))
        go_loopw [3, 5, 6] (fun s c _ wr => ∃ j : Nat, j ≤ 4 ∧ c = iv j ∧ s = .string (bs (textL b k ++ sepL k ++ rowL b k j)) ∧ Mem w0 wr σ) (fun _ c _ _ => 4 - (intOf c).toNat)
        case atStart => exact ⟨0, by omega, rfl, congrArg Value.string (HST.out _ (by first | rw [if_pos h0] | rw [if_neg h0])), hm⟩
        case round =>
          clear hm
          obtain ⟨j, hj, rfl, rfl, hm⟩ := hrel
          subst hσ
          by_cases hjt : j < 4
          · have hj4 : (j : Int) < 4 := by omega
            have hv : (b.map iv)[k * 4 + j]? = some (iv (atL b (4 * k + j))) := by rw [show k * 4 + j = 4 * k + j from by omega]; exact get_iv (by omega)
            have hlb : (b.map iv).length = 16 := by simpa using hl
            have ha := atL_ok HO.out (4 * k + j)
            have hrl := rowL_len b k j
            have hsz := bs_size (textL b k ++ sepL k ++ rowL b k j)
            rw [List.length_append, hrl] at hsz
            have hrs := rowL_succ b k j
            generalize atL b (4 * k + j) = t at *
            obtain ⟨tn, rfl⟩ : ∃ tn : Nat, t = tn := ⟨t.toNat, by omega⟩
            rw [Int.toNat_natCast] at hrs
            have hle := letter_at tn (by omega)
            have hcat : bs (textL b k ++ sepL k ++ rowL b k j) ++ bs [letter tn] = bs (textL b k ++ sepL k ++ rowL b k (j + 1)) := by rw [bs_app, List.append_assoc, ← hrs]
            have hu := bs_size [letter tn]
            simp only [List.length_cons, List.length_nil] at hu
            generalize bs [letter tn] = U at *
            generalize hR : bs (textL b k ++ sepL k ++ rowL b k (j + 1)) = R at *
            have HR := Lib.hid hR
            clear hR
            generalize bs (textL b k ++ sepL k ++ rowL b k j) = S at *
            repeat' (first  | ((with_reducible refine gix ?_); first | refine mix rfl rfl rfl rfl ?_ | refine mixr rfl rfl rfl rfl ?_; (try simp only [Int.toNat_zero, Int.reduceToNat, Nat.reduceMul, Nat.zero_mul, Nat.one_mul, List.drop_succ_cons, List.drop_zero, List.take_succ_cons, List.take_zero])) | ((with_reducible refine gl ?_); first | refine ml hm rfl rfl rfl ?_ | refine mlw hm rfl rfl rfl ?_ | (refine mlr hm rfl rfl rfl ?_; try simp only [List.drop_succ_cons, List.drop_zero, List.take_succ_cons, List.take_zero])) | ((with_reducible refine gs ?_); (first | refine ms hm rfl rfl rfl rfl rfl ?_ | refine msw hm rfl rfl rfl rfl ?_ | refine msr hm rfl rfl rfl rfl ?_); clear hm; intro w hm; (try simp only [splice, List.set_cons_zero, List.set_cons_succ] at hm)) | ((with_reducible refine gb ?_); (first | refine mem_box hm rfl rfl rfl ?_ | refine mem_box1 hm rfl rfl rfl rfl ?_); clear hm; intro n w hm) | ((with_reducible refine ga ?_); refine mem_alloc hm rfl rfl ?_; clear hm; intro n w hm) | go_values | go_skip | go_guarded | go_step | go_upon | ((with_reducible refine bp ?_); go_back) | ((with_reducible refine up ?_); first | (simp only [Int.not_lt, Int.not_le] at *; go_simp) | (go_values <;> (try go_simp)) | (go_ite <;> go_prune <;> (try go_simp)) | (split <;> (first | (rename_i hx; exact (hx _ rfl).elim) | go_prune))))
            go_roundw
            case rel => (try (first | ((repeat apply Exists.intro); refine ⟨?_, rfl⟩) | (repeat refine ex_any ?_))); exact ⟨j + 1, by omega, by go_num, by rw [HR.out], hm⟩
            case measure => simp [intOf]; omega
          · obtain rfl : j = 4 := by omega
            rw [← HEN.out]
            repeat' (first  | ((with_reducible refine gix ?_); first | refine mix rfl rfl rfl rfl ?_ | refine mixr rfl rfl rfl rfl ?_; (try simp only [Int.toNat_zero, Int.reduceToNat, Nat.reduceMul, Nat.zero_mul, Nat.one_mul, List.drop_succ_cons, List.drop_zero, List.take_succ_cons, List.take_zero])) | ((with_reducible refine gl ?_); first | refine ml hm rfl rfl rfl ?_ | refine mlw hm rfl rfl rfl ?_ | (refine mlr hm rfl rfl rfl ?_; try simp only [List.drop_succ_cons, List.drop_zero, List.take_succ_cons, List.take_zero])) | ((with_reducible refine gs ?_); (first | refine ms hm rfl rfl rfl rfl rfl ?_ | refine msw hm rfl rfl rfl rfl ?_ | refine msr hm rfl rfl rfl rfl ?_); clear hm; intro w hm; (try simp only [splice, List.set_cons_zero, List.set_cons_succ] at hm)) | ((with_reducible refine gb ?_); (first | refine mem_box hm rfl rfl rfl ?_ | refine mem_box1 hm rfl rfl rfl rfl ?_); clear hm; intro n w hm) | ((with_reducible refine ga ?_); refine mem_alloc hm rfl rfl ?_; clear hm; intro n w hm) | go_values | go_skip | go_guarded | go_step | go_upon | ((with_reducible refine bp ?_); go_back) | ((with_reducible refine up ?_); first | (simp only [Int.not_lt, Int.not_le] at *; go_simp) | (go_values <;> (try go_simp)) | (go_ite <;> go_prune <;> (try go_simp)) | (split <;> (first | (rename_i hx; exact (hx _ rfl).elim) | go_prune))))
            go_roundw
            case rel => (try (first | ((repeat apply Exists.intro); refine ⟨?_, rfl⟩) | (repeat refine ex_any ?_))); exact ⟨k + 1, by omega, by go_num, rfl, hm⟩
            case measure => simp [intOf]; omega
    · obtain rfl : k = 4 := by omega
      repeat' (first  | ((with_reducible refine gix ?_); first | refine mix rfl rfl rfl rfl ?_ | refine mixr rfl rfl rfl rfl ?_; (try simp only [Int.toNat_zero, Int.reduceToNat, Nat.reduceMul, Nat.zero_mul, Nat.one_mul, List.drop_succ_cons, List.drop_zero, List.take_succ_cons, List.take_zero])) | ((with_reducible refine gl ?_); first | refine ml hm rfl rfl rfl ?_ | refine mlw hm rfl rfl rfl ?_ | (refine mlr hm rfl rfl rfl ?_; try simp only [List.drop_succ_cons, List.drop_zero, List.take_succ_cons, List.take_zero])) | ((with_reducible refine gs ?_); (first | refine ms hm rfl rfl rfl rfl rfl ?_ | refine msw hm rfl rfl rfl rfl ?_ | refine msr hm rfl rfl rfl rfl ?_); clear hm; intro w hm; (try simp only [splice, List.set_cons_zero, List.set_cons_succ] at hm)) | ((with_reducible refine gb ?_); (first | refine mem_box hm rfl rfl rfl ?_ | refine mem_box1 hm rfl rfl rfl rfl ?_); clear hm; intro n w hm) | ((with_reducible refine ga ?_); refine mem_alloc hm rfl rfl ?_; clear hm; intro n w hm) | go_values | go_skip | go_guarded | go_step | go_upon | ((with_reducible refine bp ?_); go_back) | ((with_reducible refine up ?_); first | (simp only [Int.not_lt, Int.not_le] at *; go_simp) | (go_values <;> (try go_simp)) | (go_ite <;> go_prune <;> (try go_simp)) | (split <;> (first | (rename_i hx; exact (hx _ rfl).elim) | go_prune))))
      (try simp only [Exit.inBlock, Exit.then])
      (first | (refine ret1 rfl rfl (by (first | exact Res.tmp rfl | exact Res.atw hm rfl | exact Res.at hm rfl)) ?_) | (refine ret2 rfl rfl (by (first | exact Res.tmp rfl | exact Res.atw hm rfl | exact Res.at hm rfl)) (by (first | exact Res.tmp rfl | exact Res.atw hm rfl | exact Res.at hm rfl)) ?_) | (refine ret3 rfl rfl (by (first | exact Res.tmp rfl | exact Res.atw hm rfl | exact Res.at hm rfl)) (by (first | exact Res.tmp rfl | exact Res.atw hm rfl | exact Res.at hm rfl)) (by (first | exact Res.tmp rfl | exact Res.atw hm rfl | exact Res.at hm rfl)) ?_) | (refine ret4 rfl rfl (by (first | exact Res.tmp rfl | exact Res.atw hm rfl | exact Res.at hm rfl)) (by (first | exact Res.tmp rfl | exact Res.atw hm rfl | exact Res.at hm rfl)) (by (first | exact Res.tmp rfl | exact Res.atw hm rfl | exact Res.at hm rfl)) (by (first | exact Res.tmp rfl | exact Res.atw hm rfl | exact Res.at hm rfl)) ?_) | fail "ret")
      exact ⟨rfl, hm.below⟩
theorem strings_Join_own {w0 w : World} {σ : List Blk} {g i n cap : Nat} {t : TypeId} {xs : List (List UInt8)} {more : List Value} (hm : Mem w0 w σ) [hA : At σ g (xs.map svS ++ more) t i] (sep : List UInt8) (hn : xs.length = n) (hc : n ≤ cap) (hb : n ≤ 1000) (hlen : (Lib.join xs sep).length ≤ 100000) :
    Calls Try.prog 91 #[.slice (some ⟨g, 0, none⟩) n cap, .string (bs sep)] w fun e w' => e = .returned (.string (bs (Lib.join xs sep))) ∧ Below w.heap.size w w' := by
  have e1 : (xs.map bs).map (·.data.toList) = xs := by simp [List.map_map, Function.comp_def, bs]
  have e2 : (bs sep).data.toList = sep := by simp [bs]
  have h := Try.strings_Join g 0 cap (xs.map bs) (bs sep) w (fun j x hx => by
    have h1 := hm.cell (.of hA.out) j
    rw [List.getElem?_map] at hx
    cases hq : xs[j]? with
    | none => rw [hq] at hx; cases hx
    | some y =>
      rw [hq] at hx
      simp only [Option.map_some, Option.some.injEq] at hx
      subst hx
      have hj := (List.getElem?_eq_some_iff.1 hq).1
      rw [List.getElem?_append_left (by simpa using hj), List.getElem?_map, hq] at h1
      rw [Nat.zero_add, h1]
      rfl) (hm.lt (.of hA.out)) (by rw [List.length_map]; omega) (by rw [List.length_map]; omega) (by rw [e1, e2]; omega)
  rw [List.length_map, hn] at h
  refine h.mono fun e w' ⟨he, hw⟩ => ⟨?_, hw⟩
  rw [he, e1, e2]
  rfl
theorem letter_get (t : Nat) (h : t ≤ 17) (h2 : t < (⟨#[46, 97, 98, 99, 100, 101, 102, 103, 104, 105, 106, 107, 108, 109, 110, 111, 112, 113]⟩ : ByteArray).size) : (⟨#[46, 97, 98, 99, 100, 101, 102, 103, 104, 105, 106, 107, 108, 109, 110, 111, 112, 113]⟩ : ByteArray)[t]'h2 = letter t := by
  obtain rfl | rfl | rfl | rfl | rfl | rfl | rfl | rfl | rfl | rfl | rfl | rfl | rfl | rfl | rfl | rfl | rfl | rfl : t = 0 ∨ t = 1 ∨ t = 2 ∨ t = 3 ∨ t = 4 ∨ t = 5 ∨ t = 6 ∨ t = 7 ∨ t = 8 ∨ t = 9 ∨ t = 10 ∨ t = 11 ∨ t = 12 ∨ t = 13 ∨ t = 14 ∨ t = 15 ∨ t = 16 ∨ t = 17 := by omega
  all_goals rfl
theorem u8_cells (l : List UInt8) (more : List Value) : ∀ j (hj : j < l.length), (l.map u8v ++ more)[j]? = some (.int .u8 (l[j].toNat : Int)) := fun j hj => by
  rw [List.getElem?_append_left (by simpa using hj), List.getElem?_map, List.getElem?_eq_getElem hj]; rfl
theorem row4 {b : List Int} (hl : b.length = 16) (k : Nat) (hk : k < 4) : ((b.map iv).drop ((k : Int).toNat * 4)).take 4 = ([atL b (4 * k + 0), atL b (4 * k + 1), atL b (4 * k + 2), atL b (4 * k + 3)] : List Int).map iv := by
  obtain ⟨a0, a1, a2, a3, b0, b1, b2, b3, c0, c1, c2, c3, d0, d1, d2, d3, rfl⟩ := list16 hl
  obtain rfl | rfl | rfl | rfl : k = 0 ∨ k = 1 ∨ k = 2 ∨ k = 3 := by omega
  all_goals rfl
set_option maxHeartbeats 2000000 in
set_option maxRecDepth 10000 in
theorem impl_Board_text (b : List Int) (hl : b.length = 16) (hok : okL b = true) (w0 : World) : Calls Try.prog 60 #[.agg (nums b)] w0 fun e w' => e = .returned (.string (bs (textL b 4))) ∧ Below w0.heap.size w0 w' := by
  have HO := Lib.hid hok
  clear hok
  go_enter Try.func60, Try.ntmps60
  have hm := Mem.start w0
  simp only [nums_map]
  repeat' (first | ((with_reducible refine gbs ?_); refine mbs hm rfl rfl rfl ?_; clear hm; intro n w hm; (try simp only [List.flatMap_cons, List.flatMap_nil, Value.cells, List.append_nil, List.cons_append, List.nil_append] at hm)) | ((with_reducible refine gap ?_); refine map_ hm rfl rfl rfl rfl hf ?_; clear hm hf; intro g cap more w hm hf; rw [List.take_left' hx] at hm hf; (try simp only [List.eraseIdx_cons_succ, List.eraseIdx_cons_zero, Nat.zero_add, Nat.reduceAdd, Nat.reduceSub, Nat.reduceLT, if_true, if_false] at hm)) | ((with_reducible refine gix ?_); first | refine mix rfl rfl rfl rfl ?_ | refine mixr rfl rfl rfl rfl ?_; (try simp only [Int.toNat_zero, Int.reduceToNat, Nat.reduceMul, Nat.zero_mul, Nat.one_mul, List.drop_succ_cons, List.drop_zero, List.take_succ_cons, List.take_zero])) | ((with_reducible refine gl ?_); first | refine ml hm rfl rfl rfl ?_ | refine mlw hm rfl rfl rfl ?_ | (refine mlr hm rfl rfl rfl ?_; try simp only [List.drop_succ_cons, List.drop_zero, List.take_succ_cons, List.take_zero])) | ((with_reducible refine gs ?_); (first | refine ms hm rfl rfl rfl rfl rfl ?_ | refine msw hm rfl rfl rfl rfl ?_ | refine msr hm rfl rfl rfl rfl ?_); clear hm; intro w hm; (try simp only [splice, List.set_cons_zero, List.set_cons_succ] at hm)) | ((with_reducible refine gb ?_); (first | refine mem_box hm rfl rfl rfl ?_ | refine mem_box1 hm rfl rfl rfl rfl ?_); clear hm; intro n w hm) | ((with_reducible refine ga ?_); refine mem_alloc hm rfl rfl ?_; clear hm; intro n w hm) | go_values | go_skip | go_guarded | go_step | go_upon | ((with_reducible refine bp ?_); go_back) | ((with_reducible refine up ?_); first | (simp only [Int.not_lt, Int.not_le] at *; go_simp) | (go_values <;> (try go_simp)) | (go_ite <;> go_prune <;> (try go_simp)) | (split <;> (first | (rename_i hx; exact (hx _ rfl).elim) | go_prune))))
  obtain ⟨τ, hτ, hS⟩ := Sl.sig2 (Sl.new hm)
  go_loopw [3, 12] (fun rows i wr => ∃ k : Nat, k ≤ 4 ∧ i = iv k ∧ Sl w0 wr rows 9 1 (((List.range k).map fun r => rowL b r 4).map svS) τ) (fun _ i _ => 4 - (intOf i).toNat)
  case atStart => exact ⟨0, by omega, rfl, hS⟩
  case round =>
    clear hm hS
    obtain ⟨k, hk, rfl, g, more, len, cap, rfl, hm, hfR, hxR⟩ := hrel
    have e : len = k := by simp at hxR; omega
    subst len
    by_cases hlt : k < 4
    · have hk4 : (k : Int) < 4 := by omega
      subst hτ
      have hrow := row4 hl k hlt
      have hget : ∀ j, j < 4 → (([atL b (4 * k + 0), atL b (4 * k + 1), atL b (4 * k + 2), atL b (4 * k + 3)] : List Int).map iv)[j]? = some (iv (atL b (4 * k + j))) := by
        intro j hj
        obtain rfl | rfl | rfl | rfl : j = 0 ∨ j = 1 ∨ j = 2 ∨ j = 3 := by omega
        all_goals rfl
      have HG := Lib.hid hget
      clear hget
      have hrl : ([atL b (4 * k + 0), atL b (4 * k + 1), atL b (4 * k + 2), atL b (4 * k + 3)] : List Int).length = 4 := rfl
      generalize ([atL b (4 * k + 0), atL b (4 * k + 1), atL b (4 * k + 2), atL b (4 * k + 3)] : List Int) = row at *
      have hrl2 : (row.map iv).length = 4 := by rw [List.length_map]; exact hrl
      repeat' (first | (with_reducible rw [hrow]) | ((with_reducible refine gbs ?_); refine mbs hm rfl rfl rfl ?_; clear hm; intro n w hm; (try simp only [List.flatMap_cons, List.flatMap_nil, Value.cells, List.append_nil, List.cons_append, List.nil_append] at hm)) | ((with_reducible refine gap ?_); refine map_ hm rfl rfl rfl rfl hf ?_; clear hm hf; intro g cap more w hm hf; rw [List.take_left' hx] at hm hf; (try simp only [List.eraseIdx_cons_succ, List.eraseIdx_cons_zero, Nat.zero_add, Nat.reduceAdd, Nat.reduceSub, Nat.reduceLT, if_true, if_false] at hm)) | ((with_reducible refine gix ?_); first | refine mix rfl rfl rfl rfl ?_ | refine mixr rfl rfl rfl rfl ?_; (try simp only [Int.toNat_zero, Int.reduceToNat, Nat.reduceMul, Nat.zero_mul, Nat.one_mul, List.drop_succ_cons, List.drop_zero, List.take_succ_cons, List.take_zero])) | ((with_reducible refine gl ?_); first | refine ml hm rfl rfl rfl ?_ | refine mlw hm rfl rfl rfl ?_ | (refine mlr hm rfl rfl rfl ?_; try simp only [List.drop_succ_cons, List.drop_zero, List.take_succ_cons, List.take_zero])) | ((with_reducible refine gs ?_); (first | refine ms hm rfl rfl rfl rfl rfl ?_ | refine msw hm rfl rfl rfl rfl ?_ | refine msr hm rfl rfl rfl rfl ?_); clear hm; intro w hm; (try simp only [splice, List.set_cons_zero, List.set_cons_succ] at hm)) | ((with_reducible refine gb ?_); (first | refine mem_box hm rfl rfl rfl ?_ | refine mem_box1 hm rfl rfl rfl rfl ?_); clear hm; intro n w hm) | ((with_reducible refine ga ?_); refine mem_alloc hm rfl rfl ?_; clear hm; intro n w hm) | go_values | go_skip | go_guarded | go_step | go_upon | ((with_reducible refine bp ?_); go_back) | ((with_reducible refine up ?_); first | (simp only [Int.not_lt, Int.not_le] at *; go_simp) | (go_values <;> (try go_simp)) | (go_ite <;> go_prune <;> (try go_simp)) | (split <;> (first | (rename_i hx; exact (hx _ rfl).elim) | go_prune))))
      obtain ⟨υ, hυ, hS⟩ := Sl.sig2 (Sl.new hm)
      go_loopw [6, 17] (fun own i wr => ∃ j : Nat, j ≤ 4 ∧ i = iv j ∧ Sl w0 wr own 5 1 ((rowL b k j).map u8v) υ) (fun _ i _ => 4 - (intOf i).toNat)
      case atStart => exact ⟨0, by omega, rfl, hS⟩
      case round =>
        clear hm hS
        obtain ⟨j, hj, rfl, g2, more2, len, cap2, rfl, hm, hf, hx⟩ := hrel
        have hjl := rowL_len b k j
        have e : len = j := by rw [List.length_map] at hx; omega
        subst len
        subst hυ
        by_cases hjt : j < 4
        · have hj4 : (j : Int) < 4 := by omega
          have hv := HG.out j hjt
          have ha := atL_ok HO.out (4 * k + j)
          have hrs := rowL_succ b k j
          generalize atL b (4 * k + j) = t at *
          obtain ⟨tn, rfl⟩ : ∃ tn : Nat, t = tn := ⟨t.toNat, by omega⟩
          rw [Int.toNat_natCast] at hrs
          have hle := letter_get tn (by omega)
          have hsz : (⟨#[46, 97, 98, 99, 100, 101, 102, 103, 104, 105, 106, 107, 108, 109, 110, 111, 112, 113]⟩ : ByteArray).size = 18 := rfl
          have HRS := Lib.hid hrs
          have HX := Lib.hid hx
          clear hrs
          repeat' (first | (with_reducible rw [hv]) | ((with_reducible refine gbs ?_); refine mbs hm rfl rfl rfl ?_; clear hm; intro n w hm; (try simp only [List.flatMap_cons, List.flatMap_nil, Value.cells, List.append_nil, List.cons_append, List.nil_append] at hm)) | ((with_reducible refine gap ?_); refine map_ hm rfl rfl rfl rfl hf ?_; clear hm hf; intro g cap more w hm hf; rw [List.take_left' hx] at hm hf; (try simp only [List.eraseIdx_cons_succ, List.eraseIdx_cons_zero, Nat.zero_add, Nat.reduceAdd, Nat.reduceSub, Nat.reduceLT, if_true, if_false] at hm)) | ((with_reducible refine gix ?_); first | refine mix rfl rfl rfl rfl ?_ | refine mixr rfl rfl rfl rfl ?_; (try simp only [Int.toNat_zero, Int.reduceToNat, Nat.reduceMul, Nat.zero_mul, Nat.one_mul, List.drop_succ_cons, List.drop_zero, List.take_succ_cons, List.take_zero])) | ((with_reducible refine gl ?_); first | refine ml hm rfl rfl rfl ?_ | refine mlw hm rfl rfl rfl ?_ | (refine mlr hm rfl rfl rfl ?_; try simp only [List.drop_succ_cons, List.drop_zero, List.take_succ_cons, List.take_zero])) | ((with_reducible refine gs ?_); (first | refine ms hm rfl rfl rfl rfl rfl ?_ | refine msw hm rfl rfl rfl rfl ?_ | refine msr hm rfl rfl rfl rfl ?_); clear hm; intro w hm; (try simp only [splice, List.set_cons_zero, List.set_cons_succ] at hm)) | ((with_reducible refine gb ?_); (first | refine mem_box hm rfl rfl rfl ?_ | refine mem_box1 hm rfl rfl rfl rfl ?_); clear hm; intro n w hm) | ((with_reducible refine ga ?_); refine mem_alloc hm rfl rfl ?_; clear hm; intro n w hm) | go_values | go_skip | go_guarded | go_step | go_upon | ((with_reducible refine bp ?_); go_back) | ((with_reducible refine up ?_); first | (simp only [Int.not_lt, Int.not_le] at *; go_simp) | (go_values <;> (try go_simp)) | (go_ite <;> go_prune <;> (try go_simp)) | (split <;> (first | (rename_i hx; exact (hx _ rfl).elim) | go_prune))))
          go_roundw
          case rel => (try (first | ((repeat apply Exists.intro); refine ⟨?_, rfl⟩) | (repeat refine ex_any ?_))); exact ⟨j + 1, by omega, by go_num, by rw [HRS.out, List.map_append]; exact Sl.of hm hf (by rw [List.length_append, HX.out]; simp)⟩
          case measure => simp [intOf]; omega
        · obtain rfl : j = 4 := by omega
          have hcs := u8_cells (rowL b k 4) more2
          have hrg : (List.range (k + 1)).map (fun r => rowL b r 4) = (List.range k).map (fun r => rowL b r 4) ++ [rowL b k 4] := by simp [List.range_succ]
          have HCS := Lib.hid hcs
          have HRG := Lib.hid hrg
          have HXR := Lib.hid hxR
          clear hf hx hcs hrg
          generalize rowL b k 4 = RW at *
          repeat' (first | ((with_reducible refine gcv ?_); refine mcvs (RW) Try.underlying119 Try.underlying5 Try.underlying9 hm rfl rfl rfl hjl HCS.out ?_) | ((with_reducible refine gbs ?_); refine mbs hm rfl rfl rfl ?_; clear hm; intro n w hm; (try simp only [List.flatMap_cons, List.flatMap_nil, Value.cells, List.append_nil, List.cons_append, List.nil_append] at hm)) | ((with_reducible refine gap ?_); refine map_ hm rfl rfl rfl rfl hfR ?_; clear hm hfR; intro g cap more w hm hf; rw [List.take_left' hxR] at hm hf; (try simp only [List.eraseIdx_cons_succ, List.eraseIdx_cons_zero, Nat.zero_add, Nat.reduceAdd, Nat.reduceSub, Nat.reduceLT, if_true, if_false] at hm)) | ((with_reducible refine gix ?_); first | refine mix rfl rfl rfl rfl ?_ | refine mixr rfl rfl rfl rfl ?_; (try simp only [Int.toNat_zero, Int.reduceToNat, Nat.reduceMul, Nat.zero_mul, Nat.one_mul, List.drop_succ_cons, List.drop_zero, List.take_succ_cons, List.take_zero])) | ((with_reducible refine gl ?_); first | refine ml hm rfl rfl rfl ?_ | refine mlw hm rfl rfl rfl ?_ | (refine mlr hm rfl rfl rfl ?_; try simp only [List.drop_succ_cons, List.drop_zero, List.take_succ_cons, List.take_zero])) | ((with_reducible refine gs ?_); (first | refine ms hm rfl rfl rfl rfl rfl ?_ | refine msw hm rfl rfl rfl rfl ?_ | refine msr hm rfl rfl rfl rfl ?_); clear hm; intro w hm; (try simp only [splice, List.set_cons_zero, List.set_cons_succ] at hm)) | ((with_reducible refine gb ?_); (first | refine mem_box hm rfl rfl rfl ?_ | refine mem_box1 hm rfl rfl rfl rfl ?_); clear hm; intro n w hm) | ((with_reducible refine ga ?_); refine mem_alloc hm rfl rfl ?_; clear hm; intro n w hm) | go_values | go_skip | go_guarded | go_step | go_upon | ((with_reducible refine bp ?_); go_back) | ((with_reducible refine up ?_); first | (simp only [Int.not_lt, Int.not_le] at *; go_simp) | (go_values <;> (try go_simp)) | (go_ite <;> go_prune <;> (try go_simp)) | (split <;> (first | (rename_i hx; exact (hx _ rfl).elim) | go_prune))))
          go_roundw
          case rel =>
            (try (first | ((repeat apply Exists.intro); refine ⟨?_, rfl⟩) | (repeat refine ex_any ?_)))
            refine ⟨k + 1, by omega, by go_num, ?_⟩
            rw [HRG.out, List.map_append]
            refine (Sl.of hm hf ?_).drop (by repeat (first | exact List.Sublist.refl _ | refine List.Sublist.cons _ ?_))
            rw [List.length_append, HXR.out]; simp
          case measure => simp [intOf]; omega
    · obtain rfl : k = 4 := by omega
      have hj : (List.range 4).map (fun r => rowL b r 4) = [rowL b 0 4, rowL b 1 4, rowL b 2 4, rowL b 3 4] := rfl
      rw [hj] at hm
      have hJ := fun (w : World) (σ : List Blk) (g i cap : Nat) (more : List Value) (hm : Mem w0 w σ) (hA : At σ g ([rowL b 0 4, rowL b 1 4, rowL b 2 4, rowL b 3 4].map svS ++ more) 9 i) (hc : 4 ≤ cap) => strings_Join_own (hA := hA) (n := 4) (cap := cap) hm [47] rfl hc (by omega) (by have h5 := textL_len b 4; rw [← join_text b] at h5; exact Nat.le_trans h5 (by decide))
      rw [join_text] at hJ
      have hcap := hfR.le
      have HJ := Lib.hid hJ
      clear hJ
      generalize hT : textL b 4 = T at *
      have HT := Lib.hid hT
      clear hT
      repeat' (first | (go_at_call 91; refine mem_call hm (HJ.out _ _ _ _ _ _ hm inferInstance hcap) ?_; clear hm; intro w hm; (try simp only [nums, List.map_cons, List.map_nil])) | ((with_reducible refine gix ?_); first | refine mix rfl rfl rfl rfl ?_ | refine mixr rfl rfl rfl rfl ?_; (try simp only [Int.toNat_zero, Int.reduceToNat, Nat.reduceMul, Nat.zero_mul, Nat.one_mul, List.drop_succ_cons, List.drop_zero, List.take_succ_cons, List.take_zero])) | ((with_reducible refine gl ?_); first | refine ml hm rfl rfl rfl ?_ | refine mlw hm rfl rfl rfl ?_ | (refine mlr hm rfl rfl rfl ?_; try simp only [List.drop_succ_cons, List.drop_zero, List.take_succ_cons, List.take_zero])) | ((with_reducible refine gs ?_); (first | refine ms hm rfl rfl rfl rfl rfl ?_ | refine msw hm rfl rfl rfl rfl ?_ | refine msr hm rfl rfl rfl rfl ?_); clear hm; intro w hm; (try simp only [splice, List.set_cons_zero, List.set_cons_succ] at hm)) | ((with_reducible refine gb ?_); (first | refine mem_box hm rfl rfl rfl ?_ | refine mem_box1 hm rfl rfl rfl rfl ?_); clear hm; intro n w hm) | ((with_reducible refine ga ?_); refine mem_alloc hm rfl rfl ?_; clear hm; intro n w hm) | go_values | go_skip | go_guarded | go_step | go_upon | ((with_reducible refine bp ?_); go_back) | ((with_reducible refine up ?_); first | (simp only [Int.not_lt, Int.not_le] at *; go_simp) | (go_values <;> (try go_simp)) | (go_ite <;> go_prune <;> (try go_simp)) | (split <;> (first | (rename_i hx; exact (hx _ rfl).elim) | go_prune))))
      (try simp only [Exit.inBlock, Exit.then])
      (first | (refine ret1 rfl rfl (by (first | exact Res.tmp rfl | exact Res.atw hm rfl | exact Res.at hm rfl)) ?_) | (refine ret2 rfl rfl (by (first | exact Res.tmp rfl | exact Res.atw hm rfl | exact Res.at hm rfl)) (by (first | exact Res.tmp rfl | exact Res.atw hm rfl | exact Res.at hm rfl)) ?_) | (refine ret3 rfl rfl (by (first | exact Res.tmp rfl | exact Res.atw hm rfl | exact Res.at hm rfl)) (by (first | exact Res.tmp rfl | exact Res.atw hm rfl | exact Res.at hm rfl)) (by (first | exact Res.tmp rfl | exact Res.atw hm rfl | exact Res.at hm rfl)) ?_) | (refine ret4 rfl rfl (by (first | exact Res.tmp rfl | exact Res.atw hm rfl | exact Res.at hm rfl)) (by (first | exact Res.tmp rfl | exact Res.atw hm rfl | exact Res.at hm rfl)) (by (first | exact Res.tmp rfl | exact Res.atw hm rfl | exact Res.at hm rfl)) (by (first | exact Res.tmp rfl | exact Res.atw hm rfl | exact Res.at hm rfl)) ?_) | fail "ret")
      exact ⟨by rw [HT.out], hm.below⟩
end Go.Proofs.Ythcjokgjiknheaa
