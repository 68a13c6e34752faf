/-
  Walks of the texts of steps, of the program.
-/
import Derived.Test.YthcjokgjiknheaaText
import Derived.BigRegion
import Derived.Laws.BytesString
set_option linter.unusedVariables false
set_option linter.unusedSimpArgs false
namespace Go.Proofs.Ythcjokgjiknheaa
open Go.RowKit Slm
theorem bytes4 (x y z u : Int) : [x, y, z, u].foldl (fun (r : ByteArray) n => r.push (UInt8.ofNat n.toNat)) ByteArray.empty = ⟨#[UInt8.ofNat x.toNat, UInt8.ofNat y.toNat, UInt8.ofNat z.toNat, UInt8.ofNat u.toNat]⟩ := by
  simp only [List.foldl_cons, List.foldl_nil]
  generalize UInt8.ofNat x.toNat = a
  generalize UInt8.ofNat y.toNat = b
  generalize UInt8.ofNat z.toNat = c
  generalize UInt8.ofNat u.toNat = d
  rfl
theorem impl_isCell4 (r c : Nat) (hr : r ≤ 3) (hc : c ≤ 3) (w : World) : Calls Try.prog 93 #[.agg #[iv r, iv c]] w fun e w' => e = .returned (.bool true) ∧ Below w.heap.size w w' := by
  have hR := impl_in r 0 3
  have hC := impl_in c 0 3
  rw [inB_iff.2 (by omega)] at hR hC
  have HR := Lib.hid hR
  have HC := Lib.hid hC
  clear hR hC
  go_enter Try.func93, Try.ntmps93
  have hm := Mem.start w
  repeat' (first | (go_at_call 48; refine mem_call hm (by first | with_reducible exact HR.out _ | with_reducible exact HC.out _) ?_; clear hm; intro w hm; (try simp only [nums, List.map_cons, List.map_nil])) | ((with_reducible refine gix ?_); first | refine mix rfl rfl rfl rfl ?_ | refine mixr rfl rfl rfl rfl ?_; (try simp only [Int.toNat_zero, Int.reduceToNat, Nat.reduceMul, Nat.zero_mul, Nat.one_mul, List.drop_succ_cons, List.drop_zero, List.take_succ_cons, List.take_zero])) | ((with_reducible refine gl ?_); first | refine ml hm rfl rfl rfl ?_ | refine mlw hm rfl rfl rfl ?_ | (refine mlr hm rfl rfl rfl ?_; try simp only [List.drop_succ_cons, List.drop_zero, List.take_succ_cons, List.take_zero])) | ((with_reducible refine gs ?_); (first | refine ms hm rfl rfl rfl rfl rfl ?_ | refine msw hm rfl rfl rfl rfl ?_ | refine msr hm rfl rfl rfl rfl ?_); clear hm; intro w hm; (try simp only [splice, List.set_cons_zero, List.set_cons_succ] at hm)) | ((with_reducible refine gb ?_); (first | refine mem_box hm rfl rfl rfl ?_ | refine mem_box1 hm rfl rfl rfl rfl ?_); clear hm; intro n w hm) | ((with_reducible refine ga ?_); refine mem_alloc hm rfl rfl ?_; clear hm; intro n w hm) | go_values | go_skip | go_guarded | go_step | go_upon | ((with_reducible refine bp ?_); go_back) | ((with_reducible refine up ?_); first | (simp only [Int.not_lt, Int.not_le] at *; go_simp) | (go_values <;> (try go_simp)) | (go_ite <;> go_prune <;> (try go_simp)) | (split <;> (first | (rename_i hx; exact (hx _ rfl).elim) | go_prune))))
  (try simp only [Exit.inBlock, Exit.then])
  (first | (refine ret1 rfl rfl (by (first | exact Res.tmp rfl | exact Res.atw hm rfl | exact Res.at hm rfl)) ?_) | (refine ret2 rfl rfl (by (first | exact Res.tmp rfl | exact Res.atw hm rfl | exact Res.at hm rfl)) (by (first | exact Res.tmp rfl | exact Res.atw hm rfl | exact Res.at hm rfl)) ?_) | (refine ret3 rfl rfl (by (first | exact Res.tmp rfl | exact Res.atw hm rfl | exact Res.at hm rfl)) (by (first | exact Res.tmp rfl | exact Res.atw hm rfl | exact Res.at hm rfl)) (by (first | exact Res.tmp rfl | exact Res.atw hm rfl | exact Res.at hm rfl)) ?_) | (refine ret4 rfl rfl (by (first | exact Res.tmp rfl | exact Res.atw hm rfl | exact Res.at hm rfl)) (by (first | exact Res.tmp rfl | exact Res.atw hm rfl | exact Res.at hm rfl)) (by (first | exact Res.tmp rfl | exact Res.atw hm rfl | exact Res.at hm rfl)) (by (first | exact Res.tmp rfl | exact Res.atw hm rfl | exact Res.at hm rfl)) ?_) | fail "ret")
  exact ⟨rfl, hm.below⟩
theorem impl_StepText_01 (r c : Nat) (hr : r ≤ 3) (hc : c ≤ 3) (w : World) : Calls Try.prog 61 #[.agg #[iv (0 : Nat), iv r, iv c, iv (1 : Nat)]] w fun e w' => e = .returned (.tuple #[.string (stepB 0 r c 1), .bool true]) ∧ Below w.heap.size w w' := by
  have hC := impl_isCell4 r c hr hc
  have hD := impl_isDirection 0
  have hI := impl_in 1 1 2
  rw [show inB (0 : Int) 0 3 = true from rfl] at hD
  rw [show inB (1 : Int) 1 2 = true from rfl] at hI
  have HC := Lib.hid hC
  have HD := Lib.hid hD
  have HI := Lib.hid hI
  clear hC hD hI
  go_enter Try.func61, Try.ntmps61
  have hm := Mem.start w
  repeat' (first | (go_at_call 92; refine mem_call hm (HD.out _) ?_; clear hm; intro w hm; (try simp only [nums, List.map_cons, List.map_nil])) | (go_at_call 93; refine mem_call hm (HC.out _) ?_; clear hm; intro w hm; (try simp only [nums, List.map_cons, List.map_nil])) | (go_at_call 48; refine mem_call hm (HI.out _) ?_; clear hm; intro w hm; (try simp only [nums, List.map_cons, List.map_nil])) | ((with_reducible refine gix ?_); first | refine mix rfl rfl rfl rfl ?_ | refine mixr rfl rfl rfl rfl ?_; (try simp only [Int.toNat_zero, Int.reduceToNat, Nat.reduceMul, Nat.zero_mul, Nat.one_mul, List.drop_succ_cons, List.drop_zero, List.take_succ_cons, List.take_zero])) | ((with_reducible refine gl ?_); first | refine ml hm rfl rfl rfl ?_ | refine mlw hm rfl rfl rfl ?_ | (refine mlr hm rfl rfl rfl ?_; try simp only [List.drop_succ_cons, List.drop_zero, List.take_succ_cons, List.take_zero])) | ((with_reducible refine gs ?_); (first | refine ms hm rfl rfl rfl rfl rfl ?_ | refine msw hm rfl rfl rfl rfl ?_ | refine msr hm rfl rfl rfl rfl ?_); clear hm; intro w hm; (try simp only [splice, List.set_cons_zero, List.set_cons_succ] at hm)) | ((with_reducible refine gb ?_); (first | refine mem_box hm rfl rfl rfl ?_ | refine mem_box1 hm rfl rfl rfl rfl ?_); clear hm; intro n w hm) | ((with_reducible refine ga ?_); refine mem_alloc hm rfl rfl ?_; clear hm; intro n w hm) | go_values | go_skip | go_guarded | go_step | go_upon | ((with_reducible refine bp ?_); go_back) | ((with_reducible refine up ?_); first | (simp only [Int.not_lt, Int.not_le] at *; go_simp) | (go_values <;> (try go_simp)) | (go_ite <;> go_prune <;> (try go_simp)) | (split <;> (first | (rename_i hx; exact (hx _ rfl).elim) | go_prune))))
  have hd := hm.drew
  have c0 : w.drew.cell? ⟨n, 0, none⟩ = some (iv (0 : Nat)) := hd.cell (.of (i := 0) rfl) _
  have c1 : w.drew.cell? ⟨n, 1, none⟩ = some (iv r) := hd.cell (.of (i := 0) rfl) _
  have c2 : w.drew.cell? ⟨n, 2, none⟩ = some (iv c) := hd.cell (.of (i := 0) rfl) _
  have c3 : w.drew.cell? ⟨n, 3, none⟩ = some (iv (1 : Nat)) := hd.cell (.of (i := 0) rfl) _
  have hcv : ∀ (W : World) (x y z u : Int), (convert 119 9 (.slice (some ⟨W.heap.size, 0, none⟩) 4 4)).run Try.prog ((W.alloc (Obj.cells #[.int .u8 x, .int .u8 y, .int .u8 z, .int .u8 u] 5)).drew) = .ok (.string ⟨#[UInt8.ofNat x.toNat, UInt8.ofNat y.toNat, UInt8.ofNat z.toNat, UInt8.ofNat u.toNat]⟩) ((W.alloc (Obj.cells #[.int .u8 x, .int .u8 y, .int .u8 z, .int .u8 u] 5)).drew) := by
    intro W x y z u
    rw [run_convert_bytes_string _ 119 9 5 _ _ _ Try.underlying119 Try.underlying5 Try.underlying9]
    refine (run_bytesToString _ ⟨W.heap.size, 0, none⟩ 4 4 [x, y, z, u] ?_).trans (by rw [bytes4])
    go_simp
  go_region
  repeat' (first  | ((with_reducible refine gix ?_); first | refine mix rfl rfl rfl rfl ?_ | refine mixr rfl rfl rfl rfl ?_; (try simp only [Int.toNat_zero, Int.reduceToNat, Nat.reduceMul, Nat.zero_mul, Nat.one_mul, List.drop_succ_cons, List.drop_zero, List.take_succ_cons, List.take_zero])) | ((with_reducible refine gl ?_); first | refine ml hm rfl rfl rfl ?_ | refine mlw hm rfl rfl rfl ?_ | (refine mlr hm rfl rfl rfl ?_; try simp only [List.drop_succ_cons, List.drop_zero, List.take_succ_cons, List.take_zero])) | ((with_reducible refine gs ?_); (first | refine ms hm rfl rfl rfl rfl rfl ?_ | refine msw hm rfl rfl rfl rfl ?_ | refine msr hm rfl rfl rfl rfl ?_); clear hm; intro w hm; (try simp only [splice, List.set_cons_zero, List.set_cons_succ] at hm)) | ((with_reducible refine gb ?_); (first | refine mem_box hm rfl rfl rfl ?_ | refine mem_box1 hm rfl rfl rfl rfl ?_); clear hm; intro n w hm) | ((with_reducible refine ga ?_); refine mem_alloc hm rfl rfl ?_; clear hm; intro n w hm) | go_values | go_skip | go_guarded | go_step | go_upon | ((with_reducible refine bp ?_); go_back) | ((with_reducible refine up ?_); first | (simp only [Int.not_lt, Int.not_le] at *; go_simp) | (go_values <;> (try go_simp)) | (go_ite <;> go_prune <;> (try go_simp)) | (split <;> (first | (rename_i hx; exact (hx _ rfl).elim) | go_prune))))
  (try simp only [Exit.inBlock, Exit.then])
  (first | (refine ret1 rfl rfl (by (first | exact Res.tmp rfl | exact Res.atw hm rfl | exact Res.at hm rfl)) ?_) | (refine ret2 rfl rfl (by (first | exact Res.tmp rfl | exact Res.atw hm rfl | exact Res.at hm rfl)) (by (first | exact Res.tmp rfl | exact Res.atw hm rfl | exact Res.at hm rfl)) ?_) | (refine ret3 rfl rfl (by (first | exact Res.tmp rfl | exact Res.atw hm rfl | exact Res.at hm rfl)) (by (first | exact Res.tmp rfl | exact Res.atw hm rfl | exact Res.at hm rfl)) (by (first | exact Res.tmp rfl | exact Res.atw hm rfl | exact Res.at hm rfl)) ?_) | (refine ret4 rfl rfl (by (first | exact Res.tmp rfl | exact Res.atw hm rfl | exact Res.at hm rfl)) (by (first | exact Res.tmp rfl | exact Res.atw hm rfl | exact Res.at hm rfl)) (by (first | exact Res.tmp rfl | exact Res.atw hm rfl | exact Res.at hm rfl)) (by (first | exact Res.tmp rfl | exact Res.atw hm rfl | exact Res.at hm rfl)) ?_) | fail "ret")
  exact ⟨rfl, ((hm.alloc [_, _, _, _] 5).drew).below⟩
theorem impl_StepText_02 (r c : Nat) (hr : r ≤ 3) (hc : c ≤ 3) (w : World) : Calls Try.prog 61 #[.agg #[iv (0 : Nat), iv r, iv c, iv (2 : Nat)]] w fun e w' => e = .returned (.tuple #[.string (stepB 0 r c 2), .bool true]) ∧ Below w.heap.size w w' := by
  have hC := impl_isCell4 r c hr hc
  have hD := impl_isDirection 0
  have hI := impl_in 2 1 2
  rw [show inB (0 : Int) 0 3 = true from rfl] at hD
  rw [show inB (2 : Int) 1 2 = true from rfl] at hI
  have HC := Lib.hid hC
  have HD := Lib.hid hD
  have HI := Lib.hid hI
  clear hC hD hI
  go_enter Try.func61, Try.ntmps61
  have hm := Mem.start w
  repeat' (first | (go_at_call 92; refine mem_call hm (HD.out _) ?_; clear hm; intro w hm; (try simp only [nums, List.map_cons, List.map_nil])) | (go_at_call 93; refine mem_call hm (HC.out _) ?_; clear hm; intro w hm; (try simp only [nums, List.map_cons, List.map_nil])) | (go_at_call 48; refine mem_call hm (HI.out _) ?_; clear hm; intro w hm; (try simp only [nums, List.map_cons, List.map_nil])) | ((with_reducible refine gix ?_); first | refine mix rfl rfl rfl rfl ?_ | refine mixr rfl rfl rfl rfl ?_; (try simp only [Int.toNat_zero, Int.reduceToNat, Nat.reduceMul, Nat.zero_mul, Nat.one_mul, List.drop_succ_cons, List.drop_zero, List.take_succ_cons, List.take_zero])) | ((with_reducible refine gl ?_); first | refine ml hm rfl rfl rfl ?_ | refine mlw hm rfl rfl rfl ?_ | (refine mlr hm rfl rfl rfl ?_; try simp only [List.drop_succ_cons, List.drop_zero, List.take_succ_cons, List.take_zero])) | ((with_reducible refine gs ?_); (first | refine ms hm rfl rfl rfl rfl rfl ?_ | refine msw hm rfl rfl rfl rfl ?_ | refine msr hm rfl rfl rfl rfl ?_); clear hm; intro w hm; (try simp only [splice, List.set_cons_zero, List.set_cons_succ] at hm)) | ((with_reducible refine gb ?_); (first | refine mem_box hm rfl rfl rfl ?_ | refine mem_box1 hm rfl rfl rfl rfl ?_); clear hm; intro n w hm) | ((with_reducible refine ga ?_); refine mem_alloc hm rfl rfl ?_; clear hm; intro n w hm) | go_values | go_skip | go_guarded | go_step | go_upon | ((with_reducible refine bp ?_); go_back) | ((with_reducible refine up ?_); first | (simp only [Int.not_lt, Int.not_le] at *; go_simp) | (go_values <;> (try go_simp)) | (go_ite <;> go_prune <;> (try go_simp)) | (split <;> (first | (rename_i hx; exact (hx _ rfl).elim) | go_prune))))
  have hd := hm.drew
  have c0 : w.drew.cell? ⟨n, 0, none⟩ = some (iv (0 : Nat)) := hd.cell (.of (i := 0) rfl) _
  have c1 : w.drew.cell? ⟨n, 1, none⟩ = some (iv r) := hd.cell (.of (i := 0) rfl) _
  have c2 : w.drew.cell? ⟨n, 2, none⟩ = some (iv c) := hd.cell (.of (i := 0) rfl) _
  have c3 : w.drew.cell? ⟨n, 3, none⟩ = some (iv (2 : Nat)) := hd.cell (.of (i := 0) rfl) _
  have hcv : ∀ (W : World) (x y z u : Int), (convert 119 9 (.slice (some ⟨W.heap.size, 0, none⟩) 4 4)).run Try.prog ((W.alloc (Obj.cells #[.int .u8 x, .int .u8 y, .int .u8 z, .int .u8 u] 5)).drew) = .ok (.string ⟨#[UInt8.ofNat x.toNat, UInt8.ofNat y.toNat, UInt8.ofNat z.toNat, UInt8.ofNat u.toNat]⟩) ((W.alloc (Obj.cells #[.int .u8 x, .int .u8 y, .int .u8 z, .int .u8 u] 5)).drew) := by
    intro W x y z u
    rw [run_convert_bytes_string _ 119 9 5 _ _ _ Try.underlying119 Try.underlying5 Try.underlying9]
    refine (run_bytesToString _ ⟨W.heap.size, 0, none⟩ 4 4 [x, y, z, u] ?_).trans (by rw [bytes4])
    go_simp
  go_region
  repeat' (first  | ((with_reducible refine gix ?_); first | refine mix rfl rfl rfl rfl ?_ | refine mixr rfl rfl rfl rfl ?_; (try simp only [Int.toNat_zero, Int.reduceToNat, Nat.reduceMul, Nat.zero_mul, Nat.one_mul, List.drop_succ_cons, List.drop_zero, List.take_succ_cons, List.take_zero])) | ((with_reducible refine gl ?_); first | refine ml hm rfl rfl rfl ?_ | refine mlw hm rfl rfl rfl ?_ | (refine mlr hm rfl rfl rfl ?_; try simp only [List.drop_succ_cons, List.drop_zero, List.take_succ_cons, List.take_zero])) | ((with_reducible refine gs ?_); (first | refine ms hm rfl rfl rfl rfl rfl ?_ | refine msw hm rfl rfl rfl rfl ?_ | refine msr hm rfl rfl rfl rfl ?_); clear hm; intro w hm; (try simp only [splice, List.set_cons_zero, List.set_cons_succ] at hm)) | ((with_reducible refine gb ?_); (first | refine mem_box hm rfl rfl rfl ?_ | refine mem_box1 hm rfl rfl rfl rfl ?_); clear hm; intro n w hm) | ((with_reducible refine ga ?_); refine mem_alloc hm rfl rfl ?_; clear hm; intro n w hm) | go_values | go_skip | go_guarded | go_step | go_upon | ((with_reducible refine bp ?_); go_back) | ((with_reducible refine up ?_); first | (simp only [Int.not_lt, Int.not_le] at *; go_simp) | (go_values <;> (try go_simp)) | (go_ite <;> go_prune <;> (try go_simp)) | (split <;> (first | (rename_i hx; exact (hx _ rfl).elim) | go_prune))))
  (try simp only [Exit.inBlock, Exit.then])
  (first | (refine ret1 rfl rfl (by (first | exact Res.tmp rfl | exact Res.atw hm rfl | exact Res.at hm rfl)) ?_) | (refine ret2 rfl rfl (by (first | exact Res.tmp rfl | exact Res.atw hm rfl | exact Res.at hm rfl)) (by (first | exact Res.tmp rfl | exact Res.atw hm rfl | exact Res.at hm rfl)) ?_) | (refine ret3 rfl rfl (by (first | exact Res.tmp rfl | exact Res.atw hm rfl | exact Res.at hm rfl)) (by (first | exact Res.tmp rfl | exact Res.atw hm rfl | exact Res.at hm rfl)) (by (first | exact Res.tmp rfl | exact Res.atw hm rfl | exact Res.at hm rfl)) ?_) | (refine ret4 rfl rfl (by (first | exact Res.tmp rfl | exact Res.atw hm rfl | exact Res.at hm rfl)) (by (first | exact Res.tmp rfl | exact Res.atw hm rfl | exact Res.at hm rfl)) (by (first | exact Res.tmp rfl | exact Res.atw hm rfl | exact Res.at hm rfl)) (by (first | exact Res.tmp rfl | exact Res.atw hm rfl | exact Res.at hm rfl)) ?_) | fail "ret")
  exact ⟨rfl, ((hm.alloc [_, _, _, _] 5).drew).below⟩
theorem impl_StepText_11 (r c : Nat) (hr : r ≤ 3) (hc : c ≤ 3) (w : World) : Calls Try.prog 61 #[.agg #[iv (1 : Nat), iv r, iv c, iv (1 : Nat)]] w fun e w' => e = .returned (.tuple #[.string (stepB 1 r c 1), .bool true]) ∧ Below w.heap.size w w' := by
  have hC := impl_isCell4 r c hr hc
  have hD := impl_isDirection 1
  have hI := impl_in 1 1 2
  rw [show inB (1 : Int) 0 3 = true from rfl] at hD
  rw [show inB (1 : Int) 1 2 = true from rfl] at hI
  have HC := Lib.hid hC
  have HD := Lib.hid hD
  have HI := Lib.hid hI
  clear hC hD hI
  go_enter Try.func61, Try.ntmps61
  have hm := Mem.start w
  repeat' (first | (go_at_call 92; refine mem_call hm (HD.out _) ?_; clear hm; intro w hm; (try simp only [nums, List.map_cons, List.map_nil])) | (go_at_call 93; refine mem_call hm (HC.out _) ?_; clear hm; intro w hm; (try simp only [nums, List.map_cons, List.map_nil])) | (go_at_call 48; refine mem_call hm (HI.out _) ?_; clear hm; intro w hm; (try simp only [nums, List.map_cons, List.map_nil])) | ((with_reducible refine gix ?_); first | refine mix rfl rfl rfl rfl ?_ | refine mixr rfl rfl rfl rfl ?_; (try simp only [Int.toNat_zero, Int.reduceToNat, Nat.reduceMul, Nat.zero_mul, Nat.one_mul, List.drop_succ_cons, List.drop_zero, List.take_succ_cons, List.take_zero])) | ((with_reducible refine gl ?_); first | refine ml hm rfl rfl rfl ?_ | refine mlw hm rfl rfl rfl ?_ | (refine mlr hm rfl rfl rfl ?_; try simp only [List.drop_succ_cons, List.drop_zero, List.take_succ_cons, List.take_zero])) | ((with_reducible refine gs ?_); (first | refine ms hm rfl rfl rfl rfl rfl ?_ | refine msw hm rfl rfl rfl rfl ?_ | refine msr hm rfl rfl rfl rfl ?_); clear hm; intro w hm; (try simp only [splice, List.set_cons_zero, List.set_cons_succ] at hm)) | ((with_reducible refine gb ?_); (first | refine mem_box hm rfl rfl rfl ?_ | refine mem_box1 hm rfl rfl rfl rfl ?_); clear hm; intro n w hm) | ((with_reducible refine ga ?_); refine mem_alloc hm rfl rfl ?_; clear hm; intro n w hm) | go_values | go_skip | go_guarded | go_step | go_upon | ((with_reducible refine bp ?_); go_back) | ((with_reducible refine up ?_); first | (simp only [Int.not_lt, Int.not_le] at *; go_simp) | (go_values <;> (try go_simp)) | (go_ite <;> go_prune <;> (try go_simp)) | (split <;> (first | (rename_i hx; exact (hx _ rfl).elim) | go_prune))))
  have hd := hm.drew
  have c0 : w.drew.cell? ⟨n, 0, none⟩ = some (iv (1 : Nat)) := hd.cell (.of (i := 0) rfl) _
  have c1 : w.drew.cell? ⟨n, 1, none⟩ = some (iv r) := hd.cell (.of (i := 0) rfl) _
  have c2 : w.drew.cell? ⟨n, 2, none⟩ = some (iv c) := hd.cell (.of (i := 0) rfl) _
  have c3 : w.drew.cell? ⟨n, 3, none⟩ = some (iv (1 : Nat)) := hd.cell (.of (i := 0) rfl) _
  have hcv : ∀ (W : World) (x y z u : Int), (convert 119 9 (.slice (some ⟨W.heap.size, 0, none⟩) 4 4)).run Try.prog ((W.alloc (Obj.cells #[.int .u8 x, .int .u8 y, .int .u8 z, .int .u8 u] 5)).drew) = .ok (.string ⟨#[UInt8.ofNat x.toNat, UInt8.ofNat y.toNat, UInt8.ofNat z.toNat, UInt8.ofNat u.toNat]⟩) ((W.alloc (Obj.cells #[.int .u8 x, .int .u8 y, .int .u8 z, .int .u8 u] 5)).drew) := by
    intro W x y z u
    rw [run_convert_bytes_string _ 119 9 5 _ _ _ Try.underlying119 Try.underlying5 Try.underlying9]
    refine (run_bytesToString _ ⟨W.heap.size, 0, none⟩ 4 4 [x, y, z, u] ?_).trans (by rw [bytes4])
    go_simp
  go_region
  repeat' (first  | ((with_reducible refine gix ?_); first | refine mix rfl rfl rfl rfl ?_ | refine mixr rfl rfl rfl rfl ?_; (try simp only [Int.toNat_zero, Int.reduceToNat, Nat.reduceMul, Nat.zero_mul, Nat.one_mul, List.drop_succ_cons, List.drop_zero, List.take_succ_cons, List.take_zero])) | ((with_reducible refine gl ?_); first | refine ml hm rfl rfl rfl ?_ | refine mlw hm rfl rfl rfl ?_ | (refine mlr hm rfl rfl rfl ?_; try simp only [List.drop_succ_cons, List.drop_zero, List.take_succ_cons, List.take_zero])) | ((with_reducible refine gs ?_); (first | refine ms hm rfl rfl rfl rfl rfl ?_ | refine msw hm rfl rfl rfl rfl ?_ | refine msr hm rfl rfl rfl rfl ?_); clear hm; intro w hm; (try simp only [splice, List.set_cons_zero, List.set_cons_succ] at hm)) | ((with_reducible refine gb ?_); (first | refine mem_box hm rfl rfl rfl ?_ | refine mem_box1 hm rfl rfl rfl rfl ?_); clear hm; intro n w hm) | ((with_reducible refine ga ?_); refine mem_alloc hm rfl rfl ?_; clear hm; intro n w hm) | go_values | go_skip | go_guarded | go_step | go_upon | ((with_reducible refine bp ?_); go_back) | ((with_reducible refine up ?_); first | (simp only [Int.not_lt, Int.not_le] at *; go_simp) | (go_values <;> (try go_simp)) | (go_ite <;> go_prune <;> (try go_simp)) | (split <;> (first | (rename_i hx; exact (hx _ rfl).elim) | go_prune))))
  (try simp only [Exit.inBlock, Exit.then])
  (first | (refine ret1 rfl rfl (by (first | exact Res.tmp rfl | exact Res.atw hm rfl | exact Res.at hm rfl)) ?_) | (refine ret2 rfl rfl (by (first | exact Res.tmp rfl | exact Res.atw hm rfl | exact Res.at hm rfl)) (by (first | exact Res.tmp rfl | exact Res.atw hm rfl | exact Res.at hm rfl)) ?_) | (refine ret3 rfl rfl (by (first | exact Res.tmp rfl | exact Res.atw hm rfl | exact Res.at hm rfl)) (by (first | exact Res.tmp rfl | exact Res.atw hm rfl | exact Res.at hm rfl)) (by (first | exact Res.tmp rfl | exact Res.atw hm rfl | exact Res.at hm rfl)) ?_) | (refine ret4 rfl rfl (by (first | exact Res.tmp rfl | exact Res.atw hm rfl | exact Res.at hm rfl)) (by (first | exact Res.tmp rfl | exact Res.atw hm rfl | exact Res.at hm rfl)) (by (first | exact Res.tmp rfl | exact Res.atw hm rfl | exact Res.at hm rfl)) (by (first | exact Res.tmp rfl | exact Res.atw hm rfl | exact Res.at hm rfl)) ?_) | fail "ret")
  exact ⟨rfl, ((hm.alloc [_, _, _, _] 5).drew).below⟩
theorem impl_StepText_12 (r c : Nat) (hr : r ≤ 3) (hc : c ≤ 3) (w : World) : Calls Try.prog 61 #[.agg #[iv (1 : Nat), iv r, iv c, iv (2 : Nat)]] w fun e w' => e = .returned (.tuple #[.string (stepB 1 r c 2), .bool true]) ∧ Below w.heap.size w w' := by
  have hC := impl_isCell4 r c hr hc
  have hD := impl_isDirection 1
  have hI := impl_in 2 1 2
  rw [show inB (1 : Int) 0 3 = true from rfl] at hD
  rw [show inB (2 : Int) 1 2 = true from rfl] at hI
  have HC := Lib.hid hC
  have HD := Lib.hid hD
  have HI := Lib.hid hI
  clear hC hD hI
  go_enter Try.func61, Try.ntmps61
  have hm := Mem.start w
  repeat' (first | (go_at_call 92; refine mem_call hm (HD.out _) ?_; clear hm; intro w hm; (try simp only [nums, List.map_cons, List.map_nil])) | (go_at_call 93; refine mem_call hm (HC.out _) ?_; clear hm; intro w hm; (try simp only [nums, List.map_cons, List.map_nil])) | (go_at_call 48; refine mem_call hm (HI.out _) ?_; clear hm; intro w hm; (try simp only [nums, List.map_cons, List.map_nil])) | ((with_reducible refine gix ?_); first | refine mix rfl rfl rfl rfl ?_ | refine mixr rfl rfl rfl rfl ?_; (try simp only [Int.toNat_zero, Int.reduceToNat, Nat.reduceMul, Nat.zero_mul, Nat.one_mul, List.drop_succ_cons, List.drop_zero, List.take_succ_cons, List.take_zero])) | ((with_reducible refine gl ?_); first | refine ml hm rfl rfl rfl ?_ | refine mlw hm rfl rfl rfl ?_ | (refine mlr hm rfl rfl rfl ?_; try simp only [List.drop_succ_cons, List.drop_zero, List.take_succ_cons, List.take_zero])) | ((with_reducible refine gs ?_); (first | refine ms hm rfl rfl rfl rfl rfl ?_ | refine msw hm rfl rfl rfl rfl ?_ | refine msr hm rfl rfl rfl rfl ?_); clear hm; intro w hm; (try simp only [splice, List.set_cons_zero, List.set_cons_succ] at hm)) | ((with_reducible refine gb ?_); (first | refine mem_box hm rfl rfl rfl ?_ | refine mem_box1 hm rfl rfl rfl rfl ?_); clear hm; intro n w hm) | ((with_reducible refine ga ?_); refine mem_alloc hm rfl rfl ?_; clear hm; intro n w hm) | go_values | go_skip | go_guarded | go_step | go_upon | ((with_reducible refine bp ?_); go_back) | ((with_reducible refine up ?_); first | (simp only [Int.not_lt, Int.not_le] at *; go_simp) | (go_values <;> (try go_simp)) | (go_ite <;> go_prune <;> (try go_simp)) | (split <;> (first | (rename_i hx; exact (hx _ rfl).elim) | go_prune))))
  have hd := hm.drew
  have c0 : w.drew.cell? ⟨n, 0, none⟩ = some (iv (1 : Nat)) := hd.cell (.of (i := 0) rfl) _
  have c1 : w.drew.cell? ⟨n, 1, none⟩ = some (iv r) := hd.cell (.of (i := 0) rfl) _
  have c2 : w.drew.cell? ⟨n, 2, none⟩ = some (iv c) := hd.cell (.of (i := 0) rfl) _
  have c3 : w.drew.cell? ⟨n, 3, none⟩ = some (iv (2 : Nat)) := hd.cell (.of (i := 0) rfl) _
  have hcv : ∀ (W : World) (x y z u : Int), (convert 119 9 (.slice (some ⟨W.heap.size, 0, none⟩) 4 4)).run Try.prog ((W.alloc (Obj.cells #[.int .u8 x, .int .u8 y, .int .u8 z, .int .u8 u] 5)).drew) = .ok (.string ⟨#[UInt8.ofNat x.toNat, UInt8.ofNat y.toNat, UInt8.ofNat z.toNat, UInt8.ofNat u.toNat]⟩) ((W.alloc (Obj.cells #[.int .u8 x, .int .u8 y, .int .u8 z, .int .u8 u] 5)).drew) := by
    intro W x y z u
    rw [run_convert_bytes_string _ 119 9 5 _ _ _ Try.underlying119 Try.underlying5 Try.underlying9]
    refine (run_bytesToString _ ⟨W.heap.size, 0, none⟩ 4 4 [x, y, z, u] ?_).trans (by rw [bytes4])
    go_simp
  go_region
  repeat' (first  | ((with_reducible refine gix ?_); first | refine mix rfl rfl rfl rfl ?_ | refine mixr rfl rfl rfl rfl ?_; (try simp only [Int.toNat_zero, Int.reduceToNat, Nat.reduceMul, Nat.zero_mul, Nat.one_mul, List.drop_succ_cons, List.drop_zero, List.take_succ_cons, List.take_zero])) | ((with_reducible refine gl ?_); first | refine ml hm rfl rfl rfl ?_ | refine mlw hm rfl rfl rfl ?_ | (refine mlr hm rfl rfl rfl ?_; try simp only [List.drop_succ_cons, List.drop_zero, List.take_succ_cons, List.take_zero])) | ((with_reducible refine gs ?_); (first | refine ms hm rfl rfl rfl rfl rfl ?_ | refine msw hm rfl rfl rfl rfl ?_ | refine msr hm rfl rfl rfl rfl ?_); clear hm; intro w hm; (try simp only [splice, List.set_cons_zero, List.set_cons_succ] at hm)) | ((with_reducible refine gb ?_); (first | refine mem_box hm rfl rfl rfl ?_ | refine mem_box1 hm rfl rfl rfl rfl ?_); clear hm; intro n w hm) | ((with_reducible refine ga ?_); refine mem_alloc hm rfl rfl ?_; clear hm; intro n w hm) | go_values | go_skip | go_guarded | go_step | go_upon | ((with_reducible refine bp ?_); go_back) | ((with_reducible refine up ?_); first | (simp only [Int.not_lt, Int.not_le] at *; go_simp) | (go_values <;> (try go_simp)) | (go_ite <;> go_prune <;> (try go_simp)) | (split <;> (first | (rename_i hx; exact (hx _ rfl).elim) | go_prune))))
  (try simp only [Exit.inBlock, Exit.then])
  (first | (refine ret1 rfl rfl (by (first | exact Res.tmp rfl | exact Res.atw hm rfl | exact Res.at hm rfl)) ?_) | (refine ret2 rfl rfl (by (first | exact Res.tmp rfl | exact Res.atw hm rfl | exact Res.at hm rfl)) (by (first | exact Res.tmp rfl | exact Res.atw hm rfl | exact Res.at hm rfl)) ?_) | (refine ret3 rfl rfl (by (first | exact Res.tmp rfl | exact Res.atw hm rfl | exact Res.at hm rfl)) (by (first | exact Res.tmp rfl | exact Res.atw hm rfl | exact Res.at hm rfl)) (by (first | exact Res.tmp rfl | exact Res.atw hm rfl | exact Res.at hm rfl)) ?_) | (refine ret4 rfl rfl (by (first | exact Res.tmp rfl | exact Res.atw hm rfl | exact Res.at hm rfl)) (by (first | exact Res.tmp rfl | exact Res.atw hm rfl | exact Res.at hm rfl)) (by (first | exact Res.tmp rfl | exact Res.atw hm rfl | exact Res.at hm rfl)) (by (first | exact Res.tmp rfl | exact Res.atw hm rfl | exact Res.at hm rfl)) ?_) | fail "ret")
  exact ⟨rfl, ((hm.alloc [_, _, _, _] 5).drew).below⟩
theorem impl_StepText_21 (r c : Nat) (hr : r ≤ 3) (hc : c ≤ 3) (w : World) : Calls Try.prog 61 #[.agg #[iv (2 : Nat), iv r, iv c, iv (1 : Nat)]] w fun e w' => e = .returned (.tuple #[.string (stepB 2 r c 1), .bool true]) ∧ Below w.heap.size w w' := by
  have hC := impl_isCell4 r c hr hc
  have hD := impl_isDirection 2
  have hI := impl_in 1 1 2
  rw [show inB (2 : Int) 0 3 = true from rfl] at hD
  rw [show inB (1 : Int) 1 2 = true from rfl] at hI
  have HC := Lib.hid hC
  have HD := Lib.hid hD
  have HI := Lib.hid hI
  clear hC hD hI
  go_enter Try.func61, Try.ntmps61
  have hm := Mem.start w
  repeat' (first | (go_at_call 92; refine mem_call hm (HD.out _) ?_; clear hm; intro w hm; (try simp only [nums, List.map_cons, List.map_nil])) | (go_at_call 93; refine mem_call hm (HC.out _) ?_; clear hm; intro w hm; (try simp only [nums, List.map_cons, List.map_nil])) | (go_at_call 48; refine mem_call hm (HI.out _) ?_; clear hm; intro w hm; (try simp only [nums, List.map_cons, List.map_nil])) | ((with_reducible refine gix ?_); first | refine mix rfl rfl rfl rfl ?_ | refine mixr rfl rfl rfl rfl ?_; (try simp only [Int.toNat_zero, Int.reduceToNat, Nat.reduceMul, Nat.zero_mul, Nat.one_mul, List.drop_succ_cons, List.drop_zero, List.take_succ_cons, List.take_zero])) | ((with_reducible refine gl ?_); first | refine ml hm rfl rfl rfl ?_ | refine mlw hm rfl rfl rfl ?_ | (refine mlr hm rfl rfl rfl ?_; try simp only [List.drop_succ_cons, List.drop_zero, List.take_succ_cons, List.take_zero])) | ((with_reducible refine gs ?_); (first | refine ms hm rfl rfl rfl rfl rfl ?_ | refine msw hm rfl rfl rfl rfl ?_ | refine msr hm rfl rfl rfl rfl ?_); clear hm; intro w hm; (try simp only [splice, List.set_cons_zero, List.set_cons_succ] at hm)) | ((with_reducible refine gb ?_); (first | refine mem_box hm rfl rfl rfl ?_ | refine mem_box1 hm rfl rfl rfl rfl ?_); clear hm; intro n w hm) | ((with_reducible refine ga ?_); refine mem_alloc hm rfl rfl ?_; clear hm; intro n w hm) | go_values | go_skip | go_guarded | go_step | go_upon | ((with_reducible refine bp ?_); go_back) | ((with_reducible refine up ?_); first | (simp only [Int.not_lt, Int.not_le] at *; go_simp) | (go_values <;> (try go_simp)) | (go_ite <;> go_prune <;> (try go_simp)) | (split <;> (first | (rename_i hx; exact (hx _ rfl).elim) | go_prune))))
  have hd := hm.drew
  have c0 : w.drew.cell? ⟨n, 0, none⟩ = some (iv (2 : Nat)) := hd.cell (.of (i := 0) rfl) _
  have c1 : w.drew.cell? ⟨n, 1, none⟩ = some (iv r) := hd.cell (.of (i := 0) rfl) _
  have c2 : w.drew.cell? ⟨n, 2, none⟩ = some (iv c) := hd.cell (.of (i := 0) rfl) _
  have c3 : w.drew.cell? ⟨n, 3, none⟩ = some (iv (1 : Nat)) := hd.cell (.of (i := 0) rfl) _
  have hcv : ∀ (W : World) (x y z u : Int), (convert 119 9 (.slice (some ⟨W.heap.size, 0, none⟩) 4 4)).run Try.prog ((W.alloc (Obj.cells #[.int .u8 x, .int .u8 y, .int .u8 z, .int .u8 u] 5)).drew) = .ok (.string ⟨#[UInt8.ofNat x.toNat, UInt8.ofNat y.toNat, UInt8.ofNat z.toNat, UInt8.ofNat u.toNat]⟩) ((W.alloc (Obj.cells #[.int .u8 x, .int .u8 y, .int .u8 z, .int .u8 u] 5)).drew) := by
    intro W x y z u
    rw [run_convert_bytes_string _ 119 9 5 _ _ _ Try.underlying119 Try.underlying5 Try.underlying9]
    refine (run_bytesToString _ ⟨W.heap.size, 0, none⟩ 4 4 [x, y, z, u] ?_).trans (by rw [bytes4])
    go_simp
  go_region
  repeat' (first  | ((with_reducible refine gix ?_); first | refine mix rfl rfl rfl rfl ?_ | refine mixr rfl rfl rfl rfl ?_; (try simp only [Int.toNat_zero, Int.reduceToNat, Nat.reduceMul, Nat.zero_mul, Nat.one_mul, List.drop_succ_cons, List.drop_zero, List.take_succ_cons, List.take_zero])) | ((with_reducible refine gl ?_); first | refine ml hm rfl rfl rfl ?_ | refine mlw hm rfl rfl rfl ?_ | (refine mlr hm rfl rfl rfl ?_; try simp only [List.drop_succ_cons, List.drop_zero, List.take_succ_cons, List.take_zero])) | ((with_reducible refine gs ?_); (first | refine ms hm rfl rfl rfl rfl rfl ?_ | refine msw hm rfl rfl rfl rfl ?_ | refine msr hm rfl rfl rfl rfl ?_); clear hm; intro w hm; (try simp only [splice, List.set_cons_zero, List.set_cons_succ] at hm)) | ((with_reducible refine gb ?_); (first | refine mem_box hm rfl rfl rfl ?_ | refine mem_box1 hm rfl rfl rfl rfl ?_); clear hm; intro n w hm) | ((with_reducible refine ga ?_); refine mem_alloc hm rfl rfl ?_; clear hm; intro n w hm) | go_values | go_skip | go_guarded | go_step | go_upon | ((with_reducible refine bp ?_); go_back) | ((with_reducible refine up ?_); first | (simp only [Int.not_lt, Int.not_le] at *; go_simp) | (go_values <;> (try go_simp)) | (go_ite <;> go_prune <;> (try go_simp)) | (split <;> (first | (rename_i hx; exact (hx _ rfl).elim) | go_prune))))
  (try simp only [Exit.inBlock, Exit.then])
  (first | (refine ret1 rfl rfl (by (first | exact Res.tmp rfl | exact Res.atw hm rfl | exact Res.at hm rfl)) ?_) | (refine ret2 rfl rfl (by (first | exact Res.tmp rfl | exact Res.atw hm rfl | exact Res.at hm rfl)) (by (first | exact Res.tmp rfl | exact Res.atw hm rfl | exact Res.at hm rfl)) ?_) | (refine ret3 rfl rfl (by (first | exact Res.tmp rfl | exact Res.atw hm rfl | exact Res.at hm rfl)) (by (first | exact Res.tmp rfl | exact Res.atw hm rfl | exact Res.at hm rfl)) (by (first | exact Res.tmp rfl | exact Res.atw hm rfl | exact Res.at hm rfl)) ?_) | (refine ret4 rfl rfl (by (first | exact Res.tmp rfl | exact Res.atw hm rfl | exact Res.at hm rfl)) (by (first | exact Res.tmp rfl | exact Res.atw hm rfl | exact Res.at hm rfl)) (by (first | exact Res.tmp rfl | exact Res.atw hm rfl | exact Res.at hm rfl)) (by (first | exact Res.tmp rfl | exact Res.atw hm rfl | exact Res.at hm rfl)) ?_) | fail "ret")
  exact ⟨rfl, ((hm.alloc [_, _, _, _] 5).drew).below⟩
theorem impl_StepText_22 (r c : Nat) (hr : r ≤ 3) (hc : c ≤ 3) (w : World) : Calls Try.prog 61 #[.agg #[iv (2 : Nat), iv r, iv c, iv (2 : Nat)]] w fun e w' => e = .returned (.tuple #[.string (stepB 2 r c 2), .bool true]) ∧ Below w.heap.size w w' := by
  have hC := impl_isCell4 r c hr hc
  have hD := impl_isDirection 2
  have hI := impl_in 2 1 2
  rw [show inB (2 : Int) 0 3 = true from rfl] at hD
  rw [show inB (2 : Int) 1 2 = true from rfl] at hI
  have HC := Lib.hid hC
  have HD := Lib.hid hD
  have HI := Lib.hid hI
  clear hC hD hI
  go_enter Try.func61, Try.ntmps61
  have hm := Mem.start w
  repeat' (first | (go_at_call 92; refine mem_call hm (HD.out _) ?_; clear hm; intro w hm; (try simp only [nums, List.map_cons, List.map_nil])) | (go_at_call 93; refine mem_call hm (HC.out _) ?_; clear hm; intro w hm; (try simp only [nums, List.map_cons, List.map_nil])) | (go_at_call 48; refine mem_call hm (HI.out _) ?_; clear hm; intro w hm; (try simp only [nums, List.map_cons, List.map_nil])) | ((with_reducible refine gix ?_); first | refine mix rfl rfl rfl rfl ?_ | refine mixr rfl rfl rfl rfl ?_; (try simp only [Int.toNat_zero, Int.reduceToNat, Nat.reduceMul, Nat.zero_mul, Nat.one_mul, List.drop_succ_cons, List.drop_zero, List.take_succ_cons, List.take_zero])) | ((with_reducible refine gl ?_); first | refine ml hm rfl rfl rfl ?_ | refine mlw hm rfl rfl rfl ?_ | (refine mlr hm rfl rfl rfl ?_; try simp only [List.drop_succ_cons, List.drop_zero, List.take_succ_cons, List.take_zero])) | ((with_reducible refine gs ?_); (first | refine ms hm rfl rfl rfl rfl rfl ?_ | refine msw hm rfl rfl rfl rfl ?_ | refine msr hm rfl rfl rfl rfl ?_); clear hm; intro w hm; (try simp only [splice, List.set_cons_zero, List.set_cons_succ] at hm)) | ((with_reducible refine gb ?_); (first | refine mem_box hm rfl rfl rfl ?_ | refine mem_box1 hm rfl rfl rfl rfl ?_); clear hm; intro n w hm) | ((with_reducible refine ga ?_); refine mem_alloc hm rfl rfl ?_; clear hm; intro n w hm) | go_values | go_skip | go_guarded | go_step | go_upon | ((with_reducible refine bp ?_); go_back) | ((with_reducible refine up ?_); first | (simp only [Int.not_lt, Int.not_le] at *; go_simp) | (go_values <;> (try go_simp)) | (go_ite <;> go_prune <;> (try go_simp)) | (split <;> (first | (rename_i hx; exact (hx _ rfl).elim) | go_prune))))
  have hd := hm.drew
  have c0 : w.drew.cell? ⟨n, 0, none⟩ = some (iv (2 : Nat)) := hd.cell (.of (i := 0) rfl) _
  have c1 : w.drew.cell? ⟨n, 1, none⟩ = some (iv r) := hd.cell (.of (i := 0) rfl) _
  have c2 : w.drew.cell? ⟨n, 2, none⟩ = some (iv c) := hd.cell (.of (i := 0) rfl) _
  have c3 : w.drew.cell? ⟨n, 3, none⟩ = some (iv (2 : Nat)) := hd.cell (.of (i := 0) rfl) _
  have hcv : ∀ (W : World) (x y z u : Int), (convert 119 9 (.slice (some ⟨W.heap.size, 0, none⟩) 4 4)).run Try.prog ((W.alloc (Obj.cells #[.int .u8 x, .int .u8 y, .int .u8 z, .int .u8 u] 5)).drew) = .ok (.string ⟨#[UInt8.ofNat x.toNat, UInt8.ofNat y.toNat, UInt8.ofNat z.toNat, UInt8.ofNat u.toNat]⟩) ((W.alloc (Obj.cells #[.int .u8 x, .int .u8 y, .int .u8 z, .int .u8 u] 5)).drew) := by
    intro W x y z u
    rw [run_convert_bytes_string _ 119 9 5 _ _ _ Try.underlying119 Try.underlying5 Try.underlying9]
    refine (run_bytesToString _ ⟨W.heap.size, 0, none⟩ 4 4 [x, y, z, u] ?_).trans (by rw [bytes4])
    go_simp
  go_region
  repeat' (first  | ((with_reducible refine gix ?_); first | refine mix rfl rfl rfl rfl ?_ | refine mixr rfl rfl rfl rfl ?_; (try simp only [Int.toNat_zero, Int.reduceToNat, Nat.reduceMul, Nat.zero_mul, Nat.one_mul, List.drop_succ_cons, List.drop_zero, List.take_succ_cons, List.take_zero])) | ((with_reducible refine gl ?_); first | refine ml hm rfl rfl rfl ?_ | refine mlw hm rfl rfl rfl ?_ | (refine mlr hm rfl rfl rfl ?_; try simp only [List.drop_succ_cons, List.drop_zero, List.take_succ_cons, List.take_zero])) | ((with_reducible refine gs ?_); (first | refine ms hm rfl rfl rfl rfl rfl ?_ | refine msw hm rfl rfl rfl rfl ?_ | refine msr hm rfl rfl rfl rfl ?_); clear hm; intro w hm; (try simp only [splice, List.set_cons_zero, List.set_cons_succ] at hm)) | ((with_reducible refine gb ?_); (first | refine mem_box hm rfl rfl rfl ?_ | refine mem_box1 hm rfl rfl rfl rfl ?_); clear hm; intro n w hm) | ((with_reducible refine ga ?_); refine mem_alloc hm rfl rfl ?_; clear hm; intro n w hm) | go_values | go_skip | go_guarded | go_step | go_upon | ((with_reducible refine bp ?_); go_back) | ((with_reducible refine up ?_); first | (simp only [Int.not_lt, Int.not_le] at *; go_simp) | (go_values <;> (try go_simp)) | (go_ite <;> go_prune <;> (try go_simp)) | (split <;> (first | (rename_i hx; exact (hx _ rfl).elim) | go_prune))))
  (try simp only [Exit.inBlock, Exit.then])
  (first | (refine ret1 rfl rfl (by (first | exact Res.tmp rfl | exact Res.atw hm rfl | exact Res.at hm rfl)) ?_) | (refine ret2 rfl rfl (by (first | exact Res.tmp rfl | exact Res.atw hm rfl | exact Res.at hm rfl)) (by (first | exact Res.tmp rfl | exact Res.atw hm rfl | exact Res.at hm rfl)) ?_) | (refine ret3 rfl rfl (by (first | exact Res.tmp rfl | exact Res.atw hm rfl | exact Res.at hm rfl)) (by (first | exact Res.tmp rfl | exact Res.atw hm rfl | exact Res.at hm rfl)) (by (first | exact Res.tmp rfl | exact Res.atw hm rfl | exact Res.at hm rfl)) ?_) | (refine ret4 rfl rfl (by (first | exact Res.tmp rfl | exact Res.atw hm rfl | exact Res.at hm rfl)) (by (first | exact Res.tmp rfl | exact Res.atw hm rfl | exact Res.at hm rfl)) (by (first | exact Res.tmp rfl | exact Res.atw hm rfl | exact Res.at hm rfl)) (by (first | exact Res.tmp rfl | exact Res.atw hm rfl | exact Res.at hm rfl)) ?_) | fail "ret")
  exact ⟨rfl, ((hm.alloc [_, _, _, _] 5).drew).below⟩
theorem impl_StepText_31 (r c : Nat) (hr : r ≤ 3) (hc : c ≤ 3) (w : World) : Calls Try.prog 61 #[.agg #[iv (3 : Nat), iv r, iv c, iv (1 : Nat)]] w fun e w' => e = .returned (.tuple #[.string (stepB 3 r c 1), .bool true]) ∧ Below w.heap.size w w' := by
  have hC := impl_isCell4 r c hr hc
  have hD := impl_isDirection 3
  have hI := impl_in 1 1 2
  rw [show inB (3 : Int) 0 3 = true from rfl] at hD
  rw [show inB (1 : Int) 1 2 = true from rfl] at hI
  have HC := Lib.hid hC
  have HD := Lib.hid hD
  have HI := Lib.hid hI
  clear hC hD hI
  go_enter Try.func61, Try.ntmps61
  have hm := Mem.start w
  repeat' (first | (go_at_call 92; refine mem_call hm (HD.out _) ?_; clear hm; intro w hm; (try simp only [nums, List.map_cons, List.map_nil])) | (go_at_call 93; refine mem_call hm (HC.out _) ?_; clear hm; intro w hm; (try simp only [nums, List.map_cons, List.map_nil])) | (go_at_call 48; refine mem_call hm (HI.out _) ?_; clear hm; intro w hm; (try simp only [nums, List.map_cons, List.map_nil])) | ((with_reducible refine gix ?_); first | refine mix rfl rfl rfl rfl ?_ | refine mixr rfl rfl rfl rfl ?_; (try simp only [Int.toNat_zero, Int.reduceToNat, Nat.reduceMul, Nat.zero_mul, Nat.one_mul, List.drop_succ_cons, List.drop_zero, List.take_succ_cons, List.take_zero])) | ((with_reducible refine gl ?_); first | refine ml hm rfl rfl rfl ?_ | refine mlw hm rfl rfl rfl ?_ | (refine mlr hm rfl rfl rfl ?_; try simp only [List.drop_succ_cons, List.drop_zero, List.take_succ_cons, List.take_zero])) | ((with_reducible refine gs ?_); (first | refine ms hm rfl rfl rfl rfl rfl ?_ | refine msw hm rfl rfl rfl rfl ?_ | refine msr hm rfl rfl rfl rfl ?_); clear hm; intro w hm; (try simp only [splice, List.set_cons_zero, List.set_cons_succ] at hm)) | ((with_reducible refine gb ?_); (first | refine mem_box hm rfl rfl rfl ?_ | refine mem_box1 hm rfl rfl rfl rfl ?_); clear hm; intro n w hm) | ((with_reducible refine ga ?_); refine mem_alloc hm rfl rfl ?_; clear hm; intro n w hm) | go_values | go_skip | go_guarded | go_step | go_upon | ((with_reducible refine bp ?_); go_back) | ((with_reducible refine up ?_); first | (simp only [Int.not_lt, Int.not_le] at *; go_simp) | (go_values <;> (try go_simp)) | (go_ite <;> go_prune <;> (try go_simp)) | (split <;> (first | (rename_i hx; exact (hx _ rfl).elim) | go_prune))))
  have hd := hm.drew
  have c0 : w.drew.cell? ⟨n, 0, none⟩ = some (iv (3 : Nat)) := hd.cell (.of (i := 0) rfl) _
  have c1 : w.drew.cell? ⟨n, 1, none⟩ = some (iv r) := hd.cell (.of (i := 0) rfl) _
  have c2 : w.drew.cell? ⟨n, 2, none⟩ = some (iv c) := hd.cell (.of (i := 0) rfl) _
  have c3 : w.drew.cell? ⟨n, 3, none⟩ = some (iv (1 : Nat)) := hd.cell (.of (i := 0) rfl) _
  have hcv : ∀ (W : World) (x y z u : Int), (convert 119 9 (.slice (some ⟨W.heap.size, 0, none⟩) 4 4)).run Try.prog ((W.alloc (Obj.cells #[.int .u8 x, .int .u8 y, .int .u8 z, .int .u8 u] 5)).drew) = .ok (.string ⟨#[UInt8.ofNat x.toNat, UInt8.ofNat y.toNat, UInt8.ofNat z.toNat, UInt8.ofNat u.toNat]⟩) ((W.alloc (Obj.cells #[.int .u8 x, .int .u8 y, .int .u8 z, .int .u8 u] 5)).drew) := by
    intro W x y z u
    rw [run_convert_bytes_string _ 119 9 5 _ _ _ Try.underlying119 Try.underlying5 Try.underlying9]
    refine (run_bytesToString _ ⟨W.heap.size, 0, none⟩ 4 4 [x, y, z, u] ?_).trans (by rw [bytes4])
    go_simp
  go_region
  repeat' (first  | ((with_reducible refine gix ?_); first | refine mix rfl rfl rfl rfl ?_ | refine mixr rfl rfl rfl rfl ?_; (try simp only [Int.toNat_zero, Int.reduceToNat, Nat.reduceMul, Nat.zero_mul, Nat.one_mul, List.drop_succ_cons, List.drop_zero, List.take_succ_cons, List.take_zero])) | ((with_reducible refine gl ?_); first | refine ml hm rfl rfl rfl ?_ | refine mlw hm rfl rfl rfl ?_ | (refine mlr hm rfl rfl rfl ?_; try simp only [List.drop_succ_cons, List.drop_zero, List.take_succ_cons, List.take_zero])) | ((with_reducible refine gs ?_); (first | refine ms hm rfl rfl rfl rfl rfl ?_ | refine msw hm rfl rfl rfl rfl ?_ | refine msr hm rfl rfl rfl rfl ?_); clear hm; intro w hm; (try simp only [splice, List.set_cons_zero, List.set_cons_succ] at hm)) | ((with_reducible refine gb ?_); (first | refine mem_box hm rfl rfl rfl ?_ | refine mem_box1 hm rfl rfl rfl rfl ?_); clear hm; intro n w hm) | ((with_reducible refine ga ?_); refine mem_alloc hm rfl rfl ?_; clear hm; intro n w hm) | go_values | go_skip | go_guarded | go_step | go_upon | ((with_reducible refine bp ?_); go_back) | ((with_reducible refine up ?_); first | (simp only [Int.not_lt, Int.not_le] at *; go_simp) | (go_values <;> (try go_simp)) | (go_ite <;> go_prune <;> (try go_simp)) | (split <;> (first | (rename_i hx; exact (hx _ rfl).elim) | go_prune))))
  (try simp only [Exit.inBlock, Exit.then])
  (first | (refine ret1 rfl rfl (by (first | exact Res.tmp rfl | exact Res.atw hm rfl | exact Res.at hm rfl)) ?_) | (refine ret2 rfl rfl (by (first | exact Res.tmp rfl | exact Res.atw hm rfl | exact Res.at hm rfl)) (by (first | exact Res.tmp rfl | exact Res.atw hm rfl | exact Res.at hm rfl)) ?_) | (refine ret3 rfl rfl (by (first | exact Res.tmp rfl | exact Res.atw hm rfl | exact Res.at hm rfl)) (by (first | exact Res.tmp rfl | exact Res.atw hm rfl | exact Res.at hm rfl)) (by (first | exact Res.tmp rfl | exact Res.atw hm rfl | exact Res.at hm rfl)) ?_) | (refine ret4 rfl rfl (by (first | exact Res.tmp rfl | exact Res.atw hm rfl | exact Res.at hm rfl)) (by (first | exact Res.tmp rfl | exact Res.atw hm rfl | exact Res.at hm rfl)) (by (first | exact Res.tmp rfl | exact Res.atw hm rfl | exact Res.at hm rfl)) (by (first | exact Res.tmp rfl | exact Res.atw hm rfl | exact Res.at hm rfl)) ?_) | fail "ret")
  exact ⟨rfl, ((hm.alloc [_, _, _, _] 5).drew).below⟩
theorem impl_StepText_32 (r c : Nat) (hr : r ≤ 3) (hc : c ≤ 3) (w : World) : Calls Try.prog 61 #[.agg #[iv (3 : Nat), iv r, iv c, iv (2 : Nat)]] w fun e w' => e = .returned (.tuple #[.string (stepB 3 r c 2), .bool true]) ∧ Below w.heap.size w w' := by
  have hC := impl_isCell4 r c hr hc
  have hD := impl_isDirection 3
  have hI := impl_in 2 1 2
  rw [show inB (3 : Int) 0 3 = true from rfl] at hD
  rw [show inB (2 : Int) 1 2 = true from rfl] at hI
  have HC := Lib.hid hC
  have HD := Lib.hid hD
  have HI := Lib.hid hI
  clear hC hD hI
  go_enter Try.func61, Try.ntmps61
  have hm := Mem.start w
  repeat' (first | (go_at_call 92; refine mem_call hm (HD.out _) ?_; clear hm; intro w hm; (try simp only [nums, List.map_cons, List.map_nil])) | (go_at_call 93; refine mem_call hm (HC.out _) ?_; clear hm; intro w hm; (try simp only [nums, List.map_cons, List.map_nil])) | (go_at_call 48; refine mem_call hm (HI.out _) ?_; clear hm; intro w hm; (try simp only [nums, List.map_cons, List.map_nil])) | ((with_reducible refine gix ?_); first | refine mix rfl rfl rfl rfl ?_ | refine mixr rfl rfl rfl rfl ?_; (try simp only [Int.toNat_zero, Int.reduceToNat, Nat.reduceMul, Nat.zero_mul, Nat.one_mul, List.drop_succ_cons, List.drop_zero, List.take_succ_cons, List.take_zero])) | ((with_reducible refine gl ?_); first | refine ml hm rfl rfl rfl ?_ | refine mlw hm rfl rfl rfl ?_ | (refine mlr hm rfl rfl rfl ?_; try simp only [List.drop_succ_cons, List.drop_zero, List.take_succ_cons, List.take_zero])) | ((with_reducible refine gs ?_); (first | refine ms hm rfl rfl rfl rfl rfl ?_ | refine msw hm rfl rfl rfl rfl ?_ | refine msr hm rfl rfl rfl rfl ?_); clear hm; intro w hm; (try simp only [splice, List.set_cons_zero, List.set_cons_succ] at hm)) | ((with_reducible refine gb ?_); (first | refine mem_box hm rfl rfl rfl ?_ | refine mem_box1 hm rfl rfl rfl rfl ?_); clear hm; intro n w hm) | ((with_reducible refine ga ?_); refine mem_alloc hm rfl rfl ?_; clear hm; intro n w hm) | go_values | go_skip | go_guarded | go_step | go_upon | ((with_reducible refine bp ?_); go_back) | ((with_reducible refine up ?_); first | (simp only [Int.not_lt, Int.not_le] at *; go_simp) | (go_values <;> (try go_simp)) | (go_ite <;> go_prune <;> (try go_simp)) | (split <;> (first | (rename_i hx; exact (hx _ rfl).elim) | go_prune))))
  have hd := hm.drew
  have c0 : w.drew.cell? ⟨n, 0, none⟩ = some (iv (3 : Nat)) := hd.cell (.of (i := 0) rfl) _
  have c1 : w.drew.cell? ⟨n, 1, none⟩ = some (iv r) := hd.cell (.of (i := 0) rfl) _
  have c2 : w.drew.cell? ⟨n, 2, none⟩ = some (iv c) := hd.cell (.of (i := 0) rfl) _
  have c3 : w.drew.cell? ⟨n, 3, none⟩ = some (iv (2 : Nat)) := hd.cell (.of (i := 0) rfl) _
  have hcv : ∀ (W : World) (x y z u : Int), (convert 119 9 (.slice (some ⟨W.heap.size, 0, none⟩) 4 4)).run Try.prog ((W.alloc (Obj.cells #[.int .u8 x, .int .u8 y, .int .u8 z, .int .u8 u] 5)).drew) = .ok (.string ⟨#[UInt8.ofNat x.toNat, UInt8.ofNat y.toNat, UInt8.ofNat z.toNat, UInt8.ofNat u.toNat]⟩) ((W.alloc (Obj.cells #[.int .u8 x, .int .u8 y, .int .u8 z, .int .u8 u] 5)).drew) := by
    intro W x y z u
    rw [run_convert_bytes_string _ 119 9 5 _ _ _ Try.underlying119 Try.underlying5 Try.underlying9]
    refine (run_bytesToString _ ⟨W.heap.size, 0, none⟩ 4 4 [x, y, z, u] ?_).trans (by rw [bytes4])
    go_simp
  go_region
  repeat' (first  | ((with_reducible refine gix ?_); first | refine mix rfl rfl rfl rfl ?_ | refine mixr rfl rfl rfl rfl ?_; (try simp only [Int.toNat_zero, Int.reduceToNat, Nat.reduceMul, Nat.zero_mul, Nat.one_mul, List.drop_succ_cons, List.drop_zero, List.take_succ_cons, List.take_zero])) | ((with_reducible refine gl ?_); first | refine ml hm rfl rfl rfl ?_ | refine mlw hm rfl rfl rfl ?_ | (refine mlr hm rfl rfl rfl ?_; try simp only [List.drop_succ_cons, List.drop_zero, List.take_succ_cons, List.take_zero])) | ((with_reducible refine gs ?_); (first | refine ms hm rfl rfl rfl rfl rfl ?_ | refine msw hm rfl rfl rfl rfl ?_ | refine msr hm rfl rfl rfl rfl ?_); clear hm; intro w hm; (try simp only [splice, List.set_cons_zero, List.set_cons_succ] at hm)) | ((with_reducible refine gb ?_); (first | refine mem_box hm rfl rfl rfl ?_ | refine mem_box1 hm rfl rfl rfl rfl ?_); clear hm; intro n w hm) | ((with_reducible refine ga ?_); refine mem_alloc hm rfl rfl ?_; clear hm; intro n w hm) | go_values | go_skip | go_guarded | go_step | go_upon | ((with_reducible refine bp ?_); go_back) | ((with_reducible refine up ?_); first | (simp only [Int.not_lt, Int.not_le] at *; go_simp) | (go_values <;> (try go_simp)) | (go_ite <;> go_prune <;> (try go_simp)) | (split <;> (first | (rename_i hx; exact (hx _ rfl).elim) | go_prune))))
  (try simp only [Exit.inBlock, Exit.then])
  (first | (refine ret1 rfl rfl (by (first | exact Res.tmp rfl | exact Res.atw hm rfl | exact Res.at hm rfl)) ?_) | (refine ret2 rfl rfl (by (first | exact Res.tmp rfl | exact Res.atw hm rfl | exact Res.at hm rfl)) (by (first | exact Res.tmp rfl | exact Res.atw hm rfl | exact Res.at hm rfl)) ?_) | (refine ret3 rfl rfl (by (first | exact Res.tmp rfl | exact Res.atw hm rfl | exact Res.at hm rfl)) (by (first | exact Res.tmp rfl | exact Res.atw hm rfl | exact Res.at hm rfl)) (by (first | exact Res.tmp rfl | exact Res.atw hm rfl | exact Res.at hm rfl)) ?_) | (refine ret4 rfl rfl (by (first | exact Res.tmp rfl | exact Res.atw hm rfl | exact Res.at hm rfl)) (by (first | exact Res.tmp rfl | exact Res.atw hm rfl | exact Res.at hm rfl)) (by (first | exact Res.tmp rfl | exact Res.atw hm rfl | exact Res.at hm rfl)) (by (first | exact Res.tmp rfl | exact Res.atw hm rfl | exact Res.at hm rfl)) ?_) | fail "ret")
  exact ⟨rfl, ((hm.alloc [_, _, _, _] 5).drew).below⟩
end Go.Proofs.Ythcjokgjiknheaa
