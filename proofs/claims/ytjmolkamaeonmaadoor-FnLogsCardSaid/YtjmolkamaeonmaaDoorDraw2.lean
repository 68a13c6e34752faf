/-
  Walks of the draws of records.
-/
import Derived.Test.YtjmolkamaeonmaaDoorDraw
import Derived.Test.YtjmolkamaeonmaaDoorConv
import Derived.Test.YtjmolkamaeonmaaDoorRead
import Derived.Laws.MakeOwn
set_option linter.unusedVariables false
set_option linter.unusedSimpArgs false
namespace Go.Proofs.YtjmolkamaeonmaaDoor
open Go.RowKit Slm
section
variable {P : Program} {ops : Array Oper} {rest : List Oper} {o : Oper} {a : Act} {w0 w : World} {σ : List Blk} {Q : Exit → Act → World → Prop}
theorem gmkb {d : Option Tmp} {T ty : TypeId} {x y : Operand} {po : String} {af : Array Edge} {gd : Option (Nat × Bool)} (k : wpList P ops Q (⟨d, .makeSlice T x y, ty, po, af, gd⟩ :: rest) a w) : wpList P ops Q (⟨d, .makeSlice T x y, ty, po, af, gd⟩ :: rest) a w := k
/-- 'make([]byte, n)'. -/
theorem mmkb {T e : TypeId} {b len : Nat} {x y : Operand} [hT : IsSlice P T e 1 b] [hz : Zero P e [.int .u8 0]] (hm : Mem w0 w σ) (ho : o.op = .makeSlice T x y) (hw : Region.wanted o (yielded ops a.tmps) = true) (hx : ev a x = some (iv len)) (hy : ev a y = some (iv len))
    (k : ∀ n w', Mem w0 w' (⟨n, List.replicate len (.int .u8 0), e⟩ :: σ) → wpList P ops Q rest (a.put o.dst (.slice (some ⟨n, 0, none⟩) len len)) w')
    (hb : b * len ≤ 281474976710656 := by omega) (hl : len ≤ 9223372036854775807 := by omega) : wpList P ops Q (o :: rest) a w := by
  refine wpList_step fun K hK => ?_
  rw [if_pos hw]
  obtain ⟨ti, z, hi, hzz, hsz, hby, hzsz⟩ := hT.elem
  obtain ⟨v, hv, hvc⟩ := hz.out
  have hvz : v = z := by simpa [hi, hzz] using hv.symm
  subst hvz
  have hbz : ((ti.bytes : Nat) : Int) * (len : Int) ≤ 281474976710656 := by rw [hby]; have h := Int.ofNat_le.2 hb; rwa [Int.natCast_mul] at h
  have hr := run_make (P := P) w T e ti v hT.out hi hzz .i64 .i64 len len (by omega) (Int.le_refl _) hbz (by omega)
  unfold Oper.wp execOp
  simp only [ho, ev_eval hx, ev_eval hy, Sem.run_bind, hr, Result.andThen_ok, Sem.run_pure]
  have hc : (madeCells v.cells ((len : Int).toNat * ti.size)).toList = List.replicate len (.int .u8 0) := by
    rw [hsz, Int.toNat_natCast, Nat.mul_one]
    apply List.ext_getElem
    · simp [madeCells]
    · intro i h1 h2
      simp only [madeCells, Array.toList_map, List.getElem_map, Array.getElem_toList, Array.getElem_range, List.getElem_replicate]
      have hlt : i % v.cells.size < v.cells.size := Nat.mod_lt _ (by rw [hzsz]; decide)
      rw [getElem!_pos v.cells _ hlt, ← Array.getElem_toList]
      have h1' : v.cells.size = 1 := hzsz
      have hi0 : i % v.cells.size = 0 := by rw [h1']; exact Nat.mod_one _
      simp only [hvc, hi0, List.getElem_cons_zero]
  have this := hm.alloc (madeCells v.cells ((len : Int).toNat * ti.size)).toList e
  rw [Array.toArray_toList] at this
  rw [hc] at this
  refine hK _ _ ?_
  have h2 := k w.heap.size (w.alloc (.cells (madeCells v.cells ((len : Int).toNat * ti.size)) e)) this
  simpa only [Int.toNat_natCast] using h2
end
theorem three0 : ∀ j (hj : j < ([0, 0, 0] : List UInt8).length), ([Value.int IntKind.u8 0, Value.int IntKind.u8 0, Value.int IntKind.u8 0] : List Value)[j]? = some (.int .u8 ((([0, 0, 0] : List UInt8)[j]).toNat : Int))
  | 0, _ => rfl
  | 1, _ => rfl
  | 2, _ => rfl
  | n + 3, h => absurd h (by simp)
set_option maxRecDepth 10000 in
set_option maxHeartbeats 1000000 in
theorem spec_logRecord {w0 w : World} {σ : List Blk} {nc cap : Nat} {g : Option Addr} {at0 : Nat} {sd0 : Int} {l : List Nat} (hl : l.length ≤ 70000) (hb : ∀ x ∈ l, x < 256) (hat : at0 ≤ 800000) (hsd : 0 ≤ sd0 ∧ sd0 < 18446744073709551616) (hm : Mem w0 w (⟨nc, [.slice g l.length cap, iv at0, .int .u64 sd0], 76⟩ :: σ)) [hA : OldCode w0 g l] :
    Moves Tryd.prog 57 #[.pointer (some ⟨nc, 0, none⟩)] w0 w σ nc g l.length cap at0 10 76 (fun v => ∃ c r : List UInt8, v = .agg #[.string (bs c), .string (bs r)] ∧ c.length ≤ 20 ∧ r.length ≤ 20) := by
  unfold Moves
  go_enter Tryd.func57, Tryd.ntmps57
  repeat' (first | ((with_reducible refine gbs ?_); refine mbs hm rfl rfl rfl ?_; clear hm; intro n w hm; (try simp only [List.flatMap_cons, List.flatMap_nil, Value.cells, List.append_nil, List.cons_append, List.nil_append] at hm)) | ((with_reducible refine gap ?_); refine map_ hm rfl rfl rfl rfl hf0 ?_; clear hm; intro g cap more w hm hf; simp only [Nat.zero_mul, List.take_zero, List.nil_append] at hm hf; (try simp only [List.eraseIdx_cons_succ, List.eraseIdx_cons_zero, Nat.zero_add, Nat.reduceAdd, Nat.reduceSub, Nat.reduceLT, if_true, if_false] at hm)) | (go_at_call 76; (first | (have h9 := hm.frontR 1 _ rfl; simp only [List.eraseIdx_cons_succ, List.eraseIdx_cons_zero] at h9; refine mem_callMv (spec_ofV 20 hl hb (by omega) (by assumption) _ rfl (by decide) (by decide) (by intro v hv; simp only [List.mem_cons, List.not_mem_nil, or_false] at hv; rcases hv with rfl | rfl | rfl | rfl | rfl <;> exact ⟨_, rfl, by decide⟩) h9) ?_; clear h9) | (have h9 := hm.frontR 2 _ rfl; simp only [List.eraseIdx_cons_succ, List.eraseIdx_cons_zero] at h9; refine mem_callMv (spec_ofV 20 hl hb (by omega) (by assumption) _ rfl (by decide) (by decide) (by intro v hv; simp only [List.mem_cons, List.not_mem_nil, or_false] at hv; rcases hv with rfl | rfl | rfl | rfl | rfl <;> exact ⟨_, rfl, by decide⟩) h9) ?_; clear h9) | (have h9 := hm.frontR 3 _ rfl; simp only [List.eraseIdx_cons_succ, List.eraseIdx_cons_zero] at h9; refine mem_callMv (spec_ofV 20 hl hb (by omega) (by assumption) _ rfl (by decide) (by decide) (by intro v hv; simp only [List.mem_cons, List.not_mem_nil, or_false] at hv; rcases hv with rfl | rfl | rfl | rfl | rfl <;> exact ⟨_, rfl, by decide⟩) h9) ?_; clear h9)); clear hm; intro v9 at9 sd9 w hv9 hat9 hsd9 hm; obtain ⟨s9, rfl, hs9⟩ := hv9; (try simp only [])) | (go_at_call 61; (first | (have h9 := hm.frontR 1 _ rfl; simp only [List.eraseIdx_cons_succ, List.eraseIdx_cons_zero] at h9; refine Calls.mono (spec_pick hl hb (by omega) (by assumption) _ h9) ?_; clear h9) | (have h9 := hm.frontR 2 _ rfl; simp only [List.eraseIdx_cons_succ, List.eraseIdx_cons_zero] at h9; refine Calls.mono (spec_pick hl hb (by omega) (by assumption) _ h9) ?_; clear h9)); clear hm; intro e w ⟨x9, at9, sd9, he, hx9, hat9, hsd9, hm⟩; subst he; (try simp only []); clear hx9; unfold curB at hm; (have hx9 : x9 = 0 ∨ x9 = 1 ∨ (x9 ≠ 0 ∧ x9 ≠ 1) := (by omega)); rcases hx9 with rfl | rfl | ⟨hx0, hx1⟩) | ((with_reducible refine gmkb ?_); refine mmkb (len := 3) hm rfl rfl rfl rfl ?_; clear hm; intro n w hm; simp only [List.replicate_succ, List.replicate_zero] at hm) | ((with_reducible refine gcv ?_); refine mcvs [0, 0, 0] Tryd.underlying53 Tryd.underlying5 Tryd.underlying9 hm rfl rfl rfl rfl three0 ?_) | ((with_reducible refine gix ?_); first | refine mix rfl rfl rfl rfl ?_ | refine mixr rfl rfl rfl rfl ?_; (try simp only [Int.toNat_zero, Int.reduceToNat, Nat.reduceMul, Nat.zero_mul, Nat.one_mul, List.drop_succ_cons, List.drop_zero, List.take_succ_cons, List.take_zero])) | ((with_reducible refine gl ?_); first | refine ml hm rfl rfl rfl ?_ | refine mlw hm rfl rfl rfl ?_ | (refine mlr hm rfl rfl rfl ?_; try simp only [List.drop_succ_cons, List.drop_zero, List.take_succ_cons, List.take_zero])) | ((with_reducible refine gs ?_); (first | refine ms hm rfl rfl rfl rfl rfl ?_ | refine msw hm rfl rfl rfl rfl ?_ | refine msr hm rfl rfl rfl rfl ?_); clear hm; intro w hm; (try simp only [splice, List.set_cons_zero, List.set_cons_succ] at hm)) | ((with_reducible refine gb ?_); (first | refine mem_box hm rfl rfl rfl ?_ | refine mem_box1 hm rfl rfl rfl rfl ?_); clear hm; intro n w hm) | ((with_reducible refine ga ?_); refine mem_alloc hm rfl rfl ?_; clear hm; intro n w hm) | go_values | go_skip | go_guarded | go_step | go_upon | ((with_reducible refine bp ?_); go_back) | ((with_reducible refine up ?_); first | (simp only [Int.not_lt, Int.not_le] at *; go_simp) | (go_values <;> (try go_simp)) | (go_ite <;> go_prune <;> (try go_simp)) | (split <;> (first | (rename_i hx; exact (hx _ rfl).elim) | go_prune))))
  all_goals
    (try simp only [Exit.inBlock, Exit.then])
    (first | (refine ret1 rfl rfl (by (first | exact Res.tmp rfl | exact Res.atw hm rfl | exact Res.at hm rfl)) ?_) | (refine ret2 rfl rfl (by (first | exact Res.tmp rfl | exact Res.atw hm rfl | exact Res.at hm rfl)) (by (first | exact Res.tmp rfl | exact Res.atw hm rfl | exact Res.at hm rfl)) ?_) | (refine ret3 rfl rfl (by (first | exact Res.tmp rfl | exact Res.atw hm rfl | exact Res.at hm rfl)) (by (first | exact Res.tmp rfl | exact Res.atw hm rfl | exact Res.at hm rfl)) (by (first | exact Res.tmp rfl | exact Res.atw hm rfl | exact Res.at hm rfl)) ?_) | (refine ret4 rfl rfl (by (first | exact Res.tmp rfl | exact Res.atw hm rfl | exact Res.at hm rfl)) (by (first | exact Res.tmp rfl | exact Res.atw hm rfl | exact Res.at hm rfl)) (by (first | exact Res.tmp rfl | exact Res.atw hm rfl | exact Res.at hm rfl)) (by (first | exact Res.tmp rfl | exact Res.atw hm rfl | exact Res.at hm rfl)) ?_) | fail "ret")
    exact ⟨_, at9, sd9, rfl, ⟨_, _, rfl, by assumption, by assumption⟩, by omega, by assumption, hm.drop (.cons_cons _ (by repeat (first | exact List.Sublist.refl _ | refine List.Sublist.cons _ ?_)))⟩
end Go.Proofs.YtjmolkamaeonmaaDoor
