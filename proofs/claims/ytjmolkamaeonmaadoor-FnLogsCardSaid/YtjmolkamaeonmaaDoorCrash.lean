/-
  The bytes of a text as a block of the call's own (with the run-time's mark behind them), and the walks of CrashLog.
-/
import Derived.Test.YtjmolkamaeonmaaDoorLog2
import Derived.Test.YtjmolkamaeonmaaDoorConv
import Derived.Test.YtjmolkamaeonmaaDoorAny
set_option linter.unusedVariables false
set_option linter.unusedSimpArgs false
namespace Go.Proofs.YtjmolkamaeonmaaDoor
open Go.RowKit Slm
/-- A block of bytes that the call itself has made by a conversion. -/
structure BB (w0 w : World) (σ : List Blk) (g : Nat) (l : List UInt8) (e : TypeId) : Prop where
  apart : ∀ b ∈ σ, b.n ≠ g
  ge : w0.heap.size ≤ g
  lies : ∃ (more : List Value) (fr : Nat), w.heap[g]? = some (.cells (l.map u8v ++ more).toArray e (fr, fr + 1)) ∧ l.length ≤ fr
section
variable {P : Program} {ops : Array Oper} {rest : List Oper} {o : Oper} {a : Act} {w0 w : World} {σ : List Blk} {Q : Exit → Act → World → Prop}
theorem BB.cell {g : Nat} {l : List UInt8} {e : TypeId} (h : BB w0 w σ g l e) {j : Nat} (hj : j < l.length) : w.cell? ⟨g, j, none⟩ = some (u8v l[j]) := by
  obtain ⟨more, fr, h1, h2⟩ := h.lies
  unfold World.cell?
  rw [h1]
  simp [List.getElem?_append_left, hj]
theorem BB.frozen {g : Nat} {l : List UInt8} {e : TypeId} (h : BB w0 w σ g l e) {j : Nat} (hj : j < l.length) : w.frozen? ⟨g, j, none⟩ = false := by
  obtain ⟨more, fr, h1, h2⟩ := h.lies
  unfold World.frozen?
  rw [h1]
  simp
  omega
theorem mcb {src dst e : TypeId} {x : Operand} (l : List UInt8) (hs : P.underlying src = some .string) (hd : P.underlying dst = some (.slice e)) (he : P.underlying e = some (.int .u8)) (hm : Mem w0 w σ) (ho : o.op = .convert src dst x) (hw : Region.wanted o (yielded ops a.tmps) = true) (hx : ev a x = some (.string (bs l)))
    (k : ∀ g cap w', Mem w0 w' σ → BB w0 w' σ g l e → wpList P ops Q rest (a.put o.dst (.slice (some ⟨g, 0, none⟩) l.length cap)) w') : wpList P ops Q (o :: rest) a w := by
  refine wpList_step fun K hK => ?_
  rw [if_pos hw]
  have hr := run_bytes_of_string (P := P) w src dst e (bs l) hs hd he
  have hsz : (bs l).size = l.length := bs_size l
  rw [hsz] at hr
  have hrow : ∃ more, bytesRow (bs l) (grownCap w l.length 0 e) = (l.map u8v ++ more).toArray := by
    refine ⟨(Array.replicate (grownCap w l.length 0 e - (bs l).size) (Value.int .u8 0)).toList, ?_⟩
    unfold bytesRow
    apply Array.ext'
    simp [bs, u8v]
  obtain ⟨more, hrow⟩ := hrow
  rw [hrow] at hr
  unfold Oper.wp execOp
  simp only [ho, ev_eval hx, Sem.run_bind, hr, Result.andThen_ok, Sem.run_pure]
  refine hK _ _ (k w.heap.size (grownCap w l.length 0 e) _ (hm.drew.next ((Below.refl _ _).alloc (Nat.le_refl _) _)) ⟨fun b hb e => by have := (Array.getElem?_eq_some_iff.1 (hm.lies b hb)).1; omega, hm.below.size, more, _, heap_alloc_new w.drew _, ?_⟩)
  simp
theorem mlb {T e : TypeId} {x : Operand} {g j : Nat} {l : List UInt8} [IsCell P T] (hb : BB w0 w σ g l e) (ho : o.op = .load T x) (hw : Region.wanted o (yielded ops a.tmps) = true) (hx : ev a x = some (.pointer (some ⟨g, j, none⟩))) (hj : j < l.length)
    (k : wpList P ops Q rest (a.put o.dst (u8v l[j])) w) : wpList P ops Q (o :: rest) a w := by
  refine wpList_step fun K hK => ?_
  rw [if_pos hw]
  replace hx := ev_eval hx
  have hr := run_loadAt_cell (P := P) (T := T) (w := w) (ad := ⟨g, j, none⟩) (v := u8v l[j]) (hb.cell hj)
  unfold Oper.wp execOp
  simp only [ho, hx, Sem.run_bind, hr, Result.andThen_ok, Sem.run_pure]
  exact hK _ _ k
theorem mlb2 {T e : TypeId} {x : Operand} {g j : Nat} {l : List UInt8} [IsCell P T] (hb : BB w0 w σ g l e) (ho : o.op = .load T x) (hw : Region.wanted o (yielded ops a.tmps) = true) (hx : ev a x = some (.pointer (some ⟨g, j, none⟩))) (hj : j < l.length)
    (k : ∀ c : UInt8, l[j] = c → (c.toNat : Int) < 256 → wpList P ops Q rest (a.put o.dst (.int .u8 c.toNat)) w) : wpList P ops Q (o :: rest) a w :=
  mlb hb ho hw hx hj (k _ rfl (by have := l[j].toNat_lt; omega))
theorem msb {T e : TypeId} {x y : Operand} {g j : Nat} {l : List UInt8} (c : UInt8) [hT : CellSize P T] (hm : Mem w0 w σ) (hb : BB w0 w σ g l e) (ho : o.op = .store T x y) (hw : Region.wanted o (yielded ops a.tmps) = true) (hx : ev a x = some (.pointer (some ⟨g, j, none⟩))) (hy : ev a y = some (u8v c)) (hj : j < l.length)
    (k : ∀ w', Mem w0 w' σ → BB w0 w' σ g (l.set j c) e → wpList P ops Q rest (a.put o.dst undef) w') : wpList P ops Q (o :: rest) a w := by
  refine wpList_step fun K hK => ?_
  rw [if_pos hw]
  replace hx := ev_eval hx
  have hcu := hb.cell hj
  have hfz := hb.frozen hj
  have h1 : (u8v c).oneCell' = true := rfl
  have hr : (Instr.storeAt T (.pointer (some ⟨g, j, none⟩)) (u8v c)).run P w = .ok () (w.setCell ⟨g, j, none⟩ (u8v c)) := by
    have hsz : (u8v c).cells = #[u8v c] := rfl
    have hi := hT.size
    cases hq : P.info? T with
    | none => simp [hq] at hi
    | some i =>
      have hi' : i.size = 1 := by simpa [hq] using hi
      simp only [Instr.storeAt, Instr.sureAddr, Sem.run_bind, Sem.run_pure, Result.andThen_ok, storeVar, sizeOf, typeInfo, hsz]
      simp [hq, hi', storeCells, run_store, h1, Addr.add, hcu, hfz, go_sem]
  unfold Oper.wp execOp
  replace hy := ev_eval hy
  simp only [ho, hx, hy, Sem.run_bind, hr, Result.andThen_ok, Sem.run_pure]
  obtain ⟨more, fr, h2, h3⟩ := hb.lies
  refine hK _ _ (k _ ⟨hm.below.trans ⟨rfl, rfl, rfl, by simp, fun k hk => heap_setCell_other _ _ _ _ (by have := hb.ge; simp only; omega)⟩, hm.own, fun b hb' => by rw [heap_setCell_other _ _ _ _ (hb.apart b hb')]; exact hm.lies b hb', hm.apart⟩ ⟨hb.apart, hb.ge, more, fr, ?_, by simpa using h3⟩)
  have hsc : (w.setCell ⟨g, j, none⟩ (u8v c)).heap[g]? = some (.cells ((l.map u8v ++ more).toArray.setIfInBounds j (u8v c)) e (fr, fr + 1)) := by
    rw [setCell_eq_setRow w g j _ e (fr, fr + 1) (u8v c) h2]
    exact setRow_heap w g _ _ e _ h2
  rw [hsc]
  simp [List.set_append_left, hj, List.map_set]
theorem mcvb {src dst e : TypeId} {x : Operand} {g cap len : Nat} {l : List UInt8} (hs : P.underlying src = some (.slice e)) (he : P.underlying e = some (.int .u8)) (hd : P.underlying dst = some .string) (hb : BB w0 w σ g l e) (ho : o.op = .convert src dst x) (hw : Region.wanted o (yielded ops a.tmps) = true) (hx : ev a x = some (.slice (some ⟨g, 0, none⟩) len cap))
    (hl : l.length = len) (k : wpList P ops Q rest (a.put o.dst (.string (bs l))) w) : wpList P ops Q (o :: rest) a w := by
  refine wpList_step fun K hK => ?_
  rw [if_pos hw]
  subst hl
  have hr := run_convert_bytes_back (P := P) w src dst e ⟨g, 0, none⟩ cap l hs he hd (fun j hj => by
    have h1 := hb.cell hj
    unfold Addr.add
    split
    · simp_all [u8v]
    · simpa [u8v] using h1)
  unfold Oper.wp execOp
  simp only [ho, ev_eval hx, Sem.run_bind, hr, Result.andThen_ok, Sem.run_pure]
  exact hK _ _ k
end
section
variable {P : Program} {l0 rest : List Oper} {o : Oper} {a : Act} {w0 w : World} {σ : List Blk} {Q : Exit → Act → World → Prop} {k fuel : Nat} {L : Array Bool} {d : Option Tmp} {T ty : TypeId} {x z : Operand} {ps : String} {af : Array Edge} {gd : Option (Nat × Bool)} {lo hi mx : Option Operand}
theorem gqsl (h : QW P l0 Q w0 σ k (⟨d, .slice T x lo hi mx, ty, ps, af, gd⟩ :: rest) fuel L a w) : QW P l0 Q w0 σ k (⟨d, .slice T x lo hi mx, ty, ps, af, gd⟩ :: rest) fuel L a w := h
theorem gqcv {src dst : TypeId} (h : QW P l0 Q w0 σ k (⟨d, .convert src dst x, ty, ps, af, gd⟩ :: rest) fuel L a w) : QW P l0 Q w0 σ k (⟨d, .convert src dst x, ty, ps, af, gd⟩ :: rest) fuel L a w := h
theorem gqad {T' : TypeId} (h : QW P l0 Q w0 σ k (⟨d, .binOp .add T x z T', ty, ps, af, gd⟩ :: rest) fuel L a w) : QW P l0 Q w0 σ k (⟨d, .binOp .add T x z T', ty, ps, af, gd⟩ :: rest) fuel L a w := h
end
/-- A crash of a log: the durable text and the first bytes of the pending one, the last of them torn or not. -/
def tornL (q : List UInt8) : List UInt8 := q.set (q.length - 1) (255 - q.getD (q.length - 1) 0)
def crashL (d p : List UInt8) (k : Nat) (torn : Bool) : List UInt8 := d ++ (if torn = true ∧ 0 < k then tornL (p.take k) else p.take k)
def crashV (d p : List UInt8) (nn keep : Int) (torn : Bool) : Value := if (validL d p nn && inB keep 0 p.length) = true then .tuple #[.string (bs (crashL d p keep.toNat torn)), .bool true] else .tuple #[.string (bs []), .bool false]
theorem u8_neg (c : UInt8) : ((255 - c : UInt8).toNat : Int) = 255 - (c.toNat : Int) := by
  have := c.toNat_lt
  rw [UInt8.toNat_sub]
  simp
  omega
theorem tornL_app {d q : List UInt8} (h : 0 < q.length) : tornL (d ++ q) = d ++ tornL q := by
  unfold tornL
  rw [List.length_append, List.set_append_right _ _ (by omega), List.getD_eq_getElem?_getD, List.getElem?_append_right (by omega), List.getD_eq_getElem?_getD, show d.length + q.length - 1 - d.length = q.length - 1 from by omega]
theorem tornL_set {q : List UInt8} {j : Nat} (h : j < q.length) (e : j = q.length - 1) : q.set j (255 - q[j]) = tornL q := by
  unfold tornL
  subst e
  rw [List.getD_eq_getElem?_getD, List.getElem?_eq_getElem h]; rfl
theorem tornL_len (q : List UInt8) : (tornL q).length = q.length := by simp [tornL]
set_option maxHeartbeats 1000000 in
theorem spec_CrashLog (d p : List UInt8) (nn : Int) (hd : d.length ≤ 1048576) (hp : p.length ≤ 1048576) (keep : Int) (torn : Bool) (w : World) (hE : Env w) : Calls Tryd.prog 23 #[logV d p nn, iv keep, .bool torn] w fun e w' => e = .returned (crashV d p nn keep torn) ∧ Below w.heap.size w w' := by
  have hV := fun (w' : World) (σ : List Blk) (hm : Mem w w' σ) => spec_l12Valid d p nn hd hp w'
  have hI := spec_l1In keep 0 p.length
  have h1 := bs_size d
  have h2 := bs_size p
  unfold crashV
  cases hv : validL d p nn
  · rw [hv] at hV
    simp only [Bool.false_and, Bool.false_eq_true, if_false]
    have HV := Lib.hid hV
    clear hV hv hI
    go_enter Tryd.func23, Tryd.ntmps23
    have hm := Mem.start w
    repeat' (first | (go_at_call 53; refine mem_call hm (HV.out _ _ hm) ?_; clear hm; intro w hm; (try simp only [nums, List.map_cons, List.map_nil])) | ((with_reducible refine gix ?_); first | refine mix rfl rfl rfl rfl ?_ | refine mixr rfl rfl rfl rfl ?_; (try simp only [Int.toNat_zero, Int.reduceToNat, Nat.reduceMul, Nat.zero_mul, Nat.one_mul, List.drop_succ_cons, List.drop_zero, List.take_succ_cons, List.take_zero])) | ((with_reducible refine gl ?_); first | refine ml hm rfl rfl rfl ?_ | refine mlw hm rfl rfl rfl ?_ | (refine mlr hm rfl rfl rfl ?_; try simp only [List.drop_succ_cons, List.drop_zero, List.take_succ_cons, List.take_zero])) | ((with_reducible refine gs ?_); (first | refine ms hm rfl rfl rfl rfl rfl ?_ | refine msw hm rfl rfl rfl rfl ?_ | refine msr hm rfl rfl rfl rfl ?_); clear hm; intro w hm; (try simp only [splice, List.set_cons_zero, List.set_cons_succ] at hm)) | ((with_reducible refine gb ?_); (first | refine mem_box hm rfl rfl rfl ?_ | refine mem_box1 hm rfl rfl rfl rfl ?_); clear hm; intro n w hm) | ((with_reducible refine ga ?_); refine mem_alloc hm rfl rfl ?_; clear hm; intro n w hm) | go_values | go_skip | go_guarded | go_step | go_upon | ((with_reducible refine bp ?_); go_back) | ((with_reducible refine up ?_); first | (simp only [Int.not_lt, Int.not_le] at *; go_simp) | (go_values <;> (try go_simp)) | (go_ite <;> go_prune <;> (try go_simp)) | (split <;> (first | (rename_i hx; exact (hx _ rfl).elim) | go_prune))))
    (try simp only [Exit.inBlock, Exit.then])
    (first | (refine ret1 rfl rfl (by (first | exact Res.tmp rfl | exact Res.atw hm rfl | exact Res.at hm rfl)) ?_) | (refine ret2 rfl rfl (by (first | exact Res.tmp rfl | exact Res.atw hm rfl | exact Res.at hm rfl)) (by (first | exact Res.tmp rfl | exact Res.atw hm rfl | exact Res.at hm rfl)) ?_) | (refine ret3 rfl rfl (by (first | exact Res.tmp rfl | exact Res.atw hm rfl | exact Res.at hm rfl)) (by (first | exact Res.tmp rfl | exact Res.atw hm rfl | exact Res.at hm rfl)) (by (first | exact Res.tmp rfl | exact Res.atw hm rfl | exact Res.at hm rfl)) ?_) | (refine ret4 rfl rfl (by (first | exact Res.tmp rfl | exact Res.atw hm rfl | exact Res.at hm rfl)) (by (first | exact Res.tmp rfl | exact Res.atw hm rfl | exact Res.at hm rfl)) (by (first | exact Res.tmp rfl | exact Res.atw hm rfl | exact Res.at hm rfl)) (by (first | exact Res.tmp rfl | exact Res.atw hm rfl | exact Res.at hm rfl)) ?_) | fail "ret")
    exact ⟨rfl, hm.below⟩
  cases hi : inB keep 0 p.length
  · rw [hv] at hV
    rw [hi] at hI
    simp only [Bool.true_and, Bool.false_eq_true, if_false]
    have HV := Lib.hid hV
    have HI := Lib.hid hI
    clear hV hv hI hi
    go_enter Tryd.func23, Tryd.ntmps23
    have hm := Mem.start w
    repeat' (first | (go_at_call 53; refine mem_call hm (HV.out _ _ hm) ?_; clear hm; intro w hm; (try simp only [nums, List.map_cons, List.map_nil])) | (go_at_call 45; refine mem_call hm (HI.out _) ?_; clear hm; intro w hm; (try simp only [nums, List.map_cons, List.map_nil])) | ((with_reducible refine gix ?_); first | refine mix rfl rfl rfl rfl ?_ | refine mixr rfl rfl rfl rfl ?_; (try simp only [Int.toNat_zero, Int.reduceToNat, Nat.reduceMul, Nat.zero_mul, Nat.one_mul, List.drop_succ_cons, List.drop_zero, List.take_succ_cons, List.take_zero])) | ((with_reducible refine gl ?_); first | refine ml hm rfl rfl rfl ?_ | refine mlw hm rfl rfl rfl ?_ | (refine mlr hm rfl rfl rfl ?_; try simp only [List.drop_succ_cons, List.drop_zero, List.take_succ_cons, List.take_zero])) | ((with_reducible refine gs ?_); (first | refine ms hm rfl rfl rfl rfl rfl ?_ | refine msw hm rfl rfl rfl rfl ?_ | refine msr hm rfl rfl rfl rfl ?_); clear hm; intro w hm; (try simp only [splice, List.set_cons_zero, List.set_cons_succ] at hm)) | ((with_reducible refine gb ?_); (first | refine mem_box hm rfl rfl rfl ?_ | refine mem_box1 hm rfl rfl rfl rfl ?_); clear hm; intro n w hm) | ((with_reducible refine ga ?_); refine mem_alloc hm rfl rfl ?_; clear hm; intro n w hm) | go_values | go_skip | go_guarded | go_step | go_upon | ((with_reducible refine bp ?_); go_back) | ((with_reducible refine up ?_); first | (simp only [Int.not_lt, Int.not_le] at *; go_simp) | (go_values <;> (try go_simp)) | (go_ite <;> go_prune <;> (try go_simp)) | (split <;> (first | (rename_i hx; exact (hx _ rfl).elim) | go_prune))))
    (try simp only [Exit.inBlock, Exit.then])
    (first | (refine ret1 rfl rfl (by (first | exact Res.tmp rfl | exact Res.atw hm rfl | exact Res.at hm rfl)) ?_) | (refine ret2 rfl rfl (by (first | exact Res.tmp rfl | exact Res.atw hm rfl | exact Res.at hm rfl)) (by (first | exact Res.tmp rfl | exact Res.atw hm rfl | exact Res.at hm rfl)) ?_) | (refine ret3 rfl rfl (by (first | exact Res.tmp rfl | exact Res.atw hm rfl | exact Res.at hm rfl)) (by (first | exact Res.tmp rfl | exact Res.atw hm rfl | exact Res.at hm rfl)) (by (first | exact Res.tmp rfl | exact Res.atw hm rfl | exact Res.at hm rfl)) ?_) | (refine ret4 rfl rfl (by (first | exact Res.tmp rfl | exact Res.atw hm rfl | exact Res.at hm rfl)) (by (first | exact Res.tmp rfl | exact Res.atw hm rfl | exact Res.at hm rfl)) (by (first | exact Res.tmp rfl | exact Res.atw hm rfl | exact Res.at hm rfl)) (by (first | exact Res.tmp rfl | exact Res.atw hm rfl | exact Res.at hm rfl)) ?_) | fail "ret")
    exact ⟨rfl, hm.below⟩
  rw [hv] at hV
  rw [hi] at hI
  obtain ⟨k, rfl⟩ := Int.eq_ofNat_of_zero_le (inB_iff.1 hi).1
  have hkp : k ≤ p.length := by have := (inB_iff.1 hi).2; omega
  simp only [Bool.and_self, if_true, Int.toNat_natCast]
  unfold crashL
  have hx := bs_ext p 0 k
  rw [List.drop_zero, Nat.sub_zero] at hx
  have hql : (p.take k).length = k := by rw [List.length_take]; omega
  have hta := @tornL_app d (p.take k)
  have htl := tornL_len (p.take k)
  generalize p.take k = q at *
  have hset : 0 < k → ∀ j (h : j < (q).length), j + 1 = (q).length → ∀ c : UInt8, (q)[j] = c → (q).set j (255 - c) = tornL q := fun h0 j h hj c e => by
    rw [← e, tornL_set h (by omega)]
    try rfl
  generalize hT : tornL q = T at *
  have h5 : (bs T).size = k := by rw [bs_size, htl, hql]
  have happ := bs_app d q
  have happ2 := bs_app d T
  have HSET := Lib.hid hset
  have h3 := bs_size q
  have h4 := bs_size (d ++ q)
  have hdq : (d ++ q).length = d.length + k := by rw [List.length_append, hql]
  have HV := Lib.hid hV
  have HI := Lib.hid hI
  clear hV hv hI hi hta hset hT
  cases torn
  · simp only [Bool.false_eq_true, false_and, if_false]
    go_enter Tryd.func23, Tryd.ntmps23
    have hm := Mem.start w
    repeat' (first | (go_at_call 53; refine mem_call hm (HV.out _ _ hm) ?_; clear hm; intro w hm; (try simp only [nums, List.map_cons, List.map_nil])) | (go_at_call 45; refine mem_call hm (HI.out _) ?_; clear hm; intro w hm; (try simp only [nums, List.map_cons, List.map_nil])) | ((with_reducible refine gcv ?_); refine mcvb Tryd.underlying53 Tryd.underlying5 Tryd.underlying9 hbb rfl rfl rfl (by first | omega | (simp; omega)) ?_) | ((with_reducible refine gcv ?_); refine mcb (q) Tryd.underlying9 Tryd.underlying53 Tryd.underlying5 hm rfl rfl rfl ?_; clear hm; intro g9 cap9 w hm hbb) | ((with_reducible refine gqw ?_); first | (refine qw_skipR (by decide +kernel) ?_) | ((with_reducible refine gqsl ?_); refine qw_skip ?_) | ((with_reducible refine gqad ?_); refine qw_skip ?_) | ((with_reducible refine gqcv ?_); refine qw_skip ?_) | ((with_reducible refine gqwl ?_); first | refine qw_load hm rfl (by decide +kernel) rfl rfl rfl (by decide +kernel) (by decide +kernel) (fun _ _ _ _ h => h) ?_ | refine qw_loadW hm rfl (by decide +kernel) rfl rfl rfl (by decide +kernel) (by decide +kernel) (fun _ _ _ _ h => h) ?_ | (refine qw_loadR hm rfl (by decide +kernel) rfl rfl rfl (by decide +kernel) (by decide +kernel) (fun _ _ _ _ h => h) ?_; (try simp only [List.drop_succ_cons, List.drop_zero, List.take_succ_cons, List.take_zero]))) | (refine qw_pure hm (by decide +kernel) (by decide +kernel) rfl (by decide +kernel) (by decide +kernel) (fun _ _ _ _ h => h) (MS.any2 hm) ?_; intro hn K hK; go_simp; (try go_ints); (try simp [↓IntWalk.iteOmega, go_sem]); first | (refine hK _ ?_; clear hK K hn) | (apply Exists.intro; refine ⟨fun _ => ?_, hK _ ?_⟩; (first | rfl | done); clear hK K hn)) | (refine qw_not hm rfl (by decide +kernel) rfl (by decide +kernel) (by decide +kernel) (fun _ _ _ h => h) ?_) | refine qw_skip ?_) | ((with_reducible refine gqwn ?_); first | (refine qw_done (by decide +kernel) ?_; (try simp only [Act.put, List.setIfInBounds_toArray, List.set_cons_zero, List.set_cons_succ])) | refine qw_all (by decide +kernel) ?_) | ((with_reducible refine gaf ?_); first | exact af_end | refine af_skip (by decide +kernel) ?_ | refine af_go ?_ ?_) | ((with_reducible refine exit_go ?_); refine ⟨hm.drop (by first | exact List.Sublist.refl _ | exact List.sublist_cons_self _ _ | (repeat (first | exact List.Sublist.refl _ | (with_reducible refine List.Sublist.cons_cons _ ?_) | refine List.Sublist.cons _ ?_))), ?_⟩) | ((with_reducible refine gd ?_); refine any_start hm (by kernel_rfl) ?_; clear hm; intro w hm) | ((with_reducible refine gix ?_); first | refine mix rfl rfl rfl rfl ?_ | refine mixr rfl rfl rfl rfl ?_; (try simp only [Int.toNat_zero, Int.reduceToNat, Nat.reduceMul, Nat.zero_mul, Nat.one_mul, List.drop_succ_cons, List.drop_zero, List.take_succ_cons, List.take_zero])) | ((with_reducible refine gl ?_); first | refine ml hm rfl rfl rfl ?_ | refine mlw hm rfl rfl rfl ?_ | (refine mlr hm rfl rfl rfl ?_; try simp only [List.drop_succ_cons, List.drop_zero, List.take_succ_cons, List.take_zero])) | ((with_reducible refine gs ?_); (first | refine ms hm rfl rfl rfl rfl rfl ?_ | refine msw hm rfl rfl rfl rfl ?_ | refine msr hm rfl rfl rfl rfl ?_); clear hm; intro w hm; (try simp only [splice, List.set_cons_zero, List.set_cons_succ] at hm)) | ((with_reducible refine gb ?_); (first | refine mem_box hm rfl rfl rfl ?_ | refine mem_box1 hm rfl rfl rfl rfl ?_); clear hm; intro n w hm) | ((with_reducible refine ga ?_); refine mem_alloc hm rfl rfl ?_; clear hm; intro n w hm) | go_values | go_skip | go_guarded | go_step | go_upon | ((with_reducible refine bp ?_); go_back) | ((with_reducible refine up ?_); first | (simp only [Int.not_lt, Int.not_le] at *; go_simp) | (go_values <;> (try go_simp)) | (go_ite <;> go_prune <;> (try go_simp)) | (split <;> (first | (rename_i hx; exact (hx _ rfl).elim) | go_prune))))
    (try simp only [Exit.inBlock, Exit.then])
    (first | (refine ret1 rfl rfl (by (first | exact Res.tmp rfl | exact Res.atw hm rfl | exact Res.at hm rfl)) ?_) | (refine ret2 rfl rfl (by (first | exact Res.tmp rfl | exact Res.atw hm rfl | exact Res.at hm rfl)) (by (first | exact Res.tmp rfl | exact Res.atw hm rfl | exact Res.at hm rfl)) ?_) | (refine ret3 rfl rfl (by (first | exact Res.tmp rfl | exact Res.atw hm rfl | exact Res.at hm rfl)) (by (first | exact Res.tmp rfl | exact Res.atw hm rfl | exact Res.at hm rfl)) (by (first | exact Res.tmp rfl | exact Res.atw hm rfl | exact Res.at hm rfl)) ?_) | (refine ret4 rfl rfl (by (first | exact Res.tmp rfl | exact Res.atw hm rfl | exact Res.at hm rfl)) (by (first | exact Res.tmp rfl | exact Res.atw hm rfl | exact Res.at hm rfl)) (by (first | exact Res.tmp rfl | exact Res.atw hm rfl | exact Res.at hm rfl)) (by (first | exact Res.tmp rfl | exact Res.atw hm rfl | exact Res.at hm rfl)) ?_) | fail "ret")
    exact ⟨by first | simp only [happ] | simp, hm.below⟩
  · by_cases hk0 : k = 0
    · subst hk0
      obtain rfl : q = [] := List.length_eq_zero_iff.1 hql
      simp only [Nat.lt_irrefl, and_false, if_false]
      go_enter Tryd.func23, Tryd.ntmps23
      have hm := Mem.start w
      repeat' (first | (go_at_call 53; refine mem_call hm (HV.out _ _ hm) ?_; clear hm; intro w hm; (try simp only [nums, List.map_cons, List.map_nil])) | (go_at_call 45; refine mem_call hm (HI.out _) ?_; clear hm; intro w hm; (try simp only [nums, List.map_cons, List.map_nil])) | ((with_reducible refine gcv ?_); refine mcvb Tryd.underlying53 Tryd.underlying5 Tryd.underlying9 hbb rfl rfl rfl (by first | omega | (simp; omega)) ?_) | ((with_reducible refine gcv ?_); refine mcb (([] : List UInt8)) Tryd.underlying9 Tryd.underlying53 Tryd.underlying5 hm rfl rfl rfl ?_; clear hm; intro g9 cap9 w hm hbb) | ((with_reducible refine gqw ?_); first | (refine qw_skipR (by decide +kernel) ?_) | ((with_reducible refine gqsl ?_); refine qw_skip ?_) | ((with_reducible refine gqad ?_); refine qw_skip ?_) | ((with_reducible refine gqcv ?_); refine qw_skip ?_) | ((with_reducible refine gqwl ?_); first | refine qw_load hm rfl (by decide +kernel) rfl rfl rfl (by decide +kernel) (by decide +kernel) (fun _ _ _ _ h => h) ?_ | refine qw_loadW hm rfl (by decide +kernel) rfl rfl rfl (by decide +kernel) (by decide +kernel) (fun _ _ _ _ h => h) ?_ | (refine qw_loadR hm rfl (by decide +kernel) rfl rfl rfl (by decide +kernel) (by decide +kernel) (fun _ _ _ _ h => h) ?_; (try simp only [List.drop_succ_cons, List.drop_zero, List.take_succ_cons, List.take_zero]))) | (refine qw_pure hm (by decide +kernel) (by decide +kernel) rfl (by decide +kernel) (by decide +kernel) (fun _ _ _ _ h => h) (MS.any2 hm) ?_; intro hn K hK; go_simp; (try go_ints); (try simp [↓IntWalk.iteOmega, go_sem]); first | (refine hK _ ?_; clear hK K hn) | (apply Exists.intro; refine ⟨fun _ => ?_, hK _ ?_⟩; (first | rfl | done); clear hK K hn)) | (refine qw_not hm rfl (by decide +kernel) rfl (by decide +kernel) (by decide +kernel) (fun _ _ _ h => h) ?_) | refine qw_skip ?_) | ((with_reducible refine gqwn ?_); first | (refine qw_done (by decide +kernel) ?_; (try simp only [Act.put, List.setIfInBounds_toArray, List.set_cons_zero, List.set_cons_succ])) | refine qw_all (by decide +kernel) ?_) | ((with_reducible refine gaf ?_); first | exact af_end | refine af_skip (by decide +kernel) ?_ | refine af_go ?_ ?_) | ((with_reducible refine exit_go ?_); refine ⟨hm.drop (by first | exact List.Sublist.refl _ | exact List.sublist_cons_self _ _ | (repeat (first | exact List.Sublist.refl _ | (with_reducible refine List.Sublist.cons_cons _ ?_) | refine List.Sublist.cons _ ?_))), ?_⟩) | ((with_reducible refine gd ?_); refine any_start hm (by kernel_rfl) ?_; clear hm; intro w hm) | ((with_reducible refine gix ?_); first | refine mix rfl rfl rfl rfl ?_ | refine mixr rfl rfl rfl rfl ?_; (try simp only [Int.toNat_zero, Int.reduceToNat, Nat.reduceMul, Nat.zero_mul, Nat.one_mul, List.drop_succ_cons, List.drop_zero, List.take_succ_cons, List.take_zero])) | ((with_reducible refine gl ?_); first | refine ml hm rfl rfl rfl ?_ | refine mlw hm rfl rfl rfl ?_ | (refine mlr hm rfl rfl rfl ?_; try simp only [List.drop_succ_cons, List.drop_zero, List.take_succ_cons, List.take_zero])) | ((with_reducible refine gs ?_); (first | refine ms hm rfl rfl rfl rfl rfl ?_ | refine msw hm rfl rfl rfl rfl ?_ | refine msr hm rfl rfl rfl rfl ?_); clear hm; intro w hm; (try simp only [splice, List.set_cons_zero, List.set_cons_succ] at hm)) | ((with_reducible refine gb ?_); (first | refine mem_box hm rfl rfl rfl ?_ | refine mem_box1 hm rfl rfl rfl rfl ?_); clear hm; intro n w hm) | ((with_reducible refine ga ?_); refine mem_alloc hm rfl rfl ?_; clear hm; intro n w hm) | go_values | go_skip | go_guarded | go_step | go_upon | ((with_reducible refine bp ?_); go_back) | ((with_reducible refine up ?_); first | (simp only [Int.not_lt, Int.not_le] at *; go_simp) | (go_values <;> (try go_simp)) | (go_ite <;> go_prune <;> (try go_simp)) | (split <;> (first | (rename_i hx; exact (hx _ rfl).elim) | go_prune))))
      (try simp only [Exit.inBlock, Exit.then])
      (first | (refine ret1 rfl rfl (by (first | exact Res.tmp rfl | exact Res.atw hm rfl | exact Res.at hm rfl)) ?_) | (refine ret2 rfl rfl (by (first | exact Res.tmp rfl | exact Res.atw hm rfl | exact Res.at hm rfl)) (by (first | exact Res.tmp rfl | exact Res.atw hm rfl | exact Res.at hm rfl)) ?_) | (refine ret3 rfl rfl (by (first | exact Res.tmp rfl | exact Res.atw hm rfl | exact Res.at hm rfl)) (by (first | exact Res.tmp rfl | exact Res.atw hm rfl | exact Res.at hm rfl)) (by (first | exact Res.tmp rfl | exact Res.atw hm rfl | exact Res.at hm rfl)) ?_) | (refine ret4 rfl rfl (by (first | exact Res.tmp rfl | exact Res.atw hm rfl | exact Res.at hm rfl)) (by (first | exact Res.tmp rfl | exact Res.atw hm rfl | exact Res.at hm rfl)) (by (first | exact Res.tmp rfl | exact Res.atw hm rfl | exact Res.at hm rfl)) (by (first | exact Res.tmp rfl | exact Res.atw hm rfl | exact Res.at hm rfl)) ?_) | fail "ret")
      exact ⟨by first | simp only [happ] | simp, hm.below⟩
    · have hkp0 : 0 < k := Nat.pos_of_ne_zero hk0
      simp only [hkp0, and_self, if_true]
      go_enter Tryd.func23, Tryd.ntmps23
      have hm := Mem.start w
      repeat' (first | ((with_reducible refine gl ?_); refine mlb2 hbb rfl rfl rfl (by omega) ?_; intro c9 hc9 hc256) | ((with_reducible refine gs ?_); refine msb (255 - c9) hm hbb rfl rfl rfl (congrArg some (congrArg (Value.int IntKind.u8) (u8_neg c9).symm)) (by omega) ?_; clear hm hbb; intro w hm hbb; rw [HSET.out hkp0 _ (by omega) (by omega) c9 hc9] at hbb; clear hc9 hc256) | (go_at_call 53; refine mem_call hm (HV.out _ _ hm) ?_; clear hm; intro w hm; (try simp only [nums, List.map_cons, List.map_nil])) | (go_at_call 45; refine mem_call hm (HI.out _) ?_; clear hm; intro w hm; (try simp only [nums, List.map_cons, List.map_nil])) | ((with_reducible refine gcv ?_); refine mcvb Tryd.underlying53 Tryd.underlying5 Tryd.underlying9 hbb rfl rfl rfl (by first | omega | (simp; omega)) ?_) | ((with_reducible refine gcv ?_); refine mcb (q) Tryd.underlying9 Tryd.underlying53 Tryd.underlying5 hm rfl rfl rfl ?_; clear hm; intro g9 cap9 w hm hbb) | ((with_reducible refine gqw ?_); first | (refine qw_skipR (by decide +kernel) ?_) | ((with_reducible refine gqsl ?_); refine qw_skip ?_) | ((with_reducible refine gqad ?_); refine qw_skip ?_) | ((with_reducible refine gqcv ?_); refine qw_skip ?_) | ((with_reducible refine gqwl ?_); first | refine qw_load hm rfl (by decide +kernel) rfl rfl rfl (by decide +kernel) (by decide +kernel) (fun _ _ _ _ h => h) ?_ | refine qw_loadW hm rfl (by decide +kernel) rfl rfl rfl (by decide +kernel) (by decide +kernel) (fun _ _ _ _ h => h) ?_ | (refine qw_loadR hm rfl (by decide +kernel) rfl rfl rfl (by decide +kernel) (by decide +kernel) (fun _ _ _ _ h => h) ?_; (try simp only [List.drop_succ_cons, List.drop_zero, List.take_succ_cons, List.take_zero]))) | (refine qw_pure hm (by decide +kernel) (by decide +kernel) rfl (by decide +kernel) (by decide +kernel) (fun _ _ _ _ h => h) (MS.any2 hm) ?_; intro hn K hK; go_simp; (try go_ints); (try simp [↓IntWalk.iteOmega, go_sem]); first | (refine hK _ ?_; clear hK K hn) | (apply Exists.intro; refine ⟨fun _ => ?_, hK _ ?_⟩; (first | rfl | done); clear hK K hn)) | (refine qw_not hm rfl (by decide +kernel) rfl (by decide +kernel) (by decide +kernel) (fun _ _ _ h => h) ?_) | refine qw_skip ?_) | ((with_reducible refine gqwn ?_); first | (refine qw_done (by decide +kernel) ?_; (try simp only [Act.put, List.setIfInBounds_toArray, List.set_cons_zero, List.set_cons_succ])) | refine qw_all (by decide +kernel) ?_) | ((with_reducible refine gaf ?_); first | exact af_end | refine af_skip (by decide +kernel) ?_ | refine af_go ?_ ?_) | ((with_reducible refine exit_go ?_); refine ⟨hm.drop (by first | exact List.Sublist.refl _ | exact List.sublist_cons_self _ _ | (repeat (first | exact List.Sublist.refl _ | (with_reducible refine List.Sublist.cons_cons _ ?_) | refine List.Sublist.cons _ ?_))), ?_⟩) | ((with_reducible refine gd ?_); refine any_start hm (by kernel_rfl) ?_; clear hm; intro w hm) | ((with_reducible refine gix ?_); first | refine mix rfl rfl rfl rfl ?_ | refine mixr rfl rfl rfl rfl ?_; (try simp only [Int.toNat_zero, Int.reduceToNat, Nat.reduceMul, Nat.zero_mul, Nat.one_mul, List.drop_succ_cons, List.drop_zero, List.take_succ_cons, List.take_zero])) | ((with_reducible refine gl ?_); first | refine ml hm rfl rfl rfl ?_ | refine mlw hm rfl rfl rfl ?_ | (refine mlr hm rfl rfl rfl ?_; try simp only [List.drop_succ_cons, List.drop_zero, List.take_succ_cons, List.take_zero])) | ((with_reducible refine gs ?_); (first | refine ms hm rfl rfl rfl rfl rfl ?_ | refine msw hm rfl rfl rfl rfl ?_ | refine msr hm rfl rfl rfl rfl ?_); clear hm; intro w hm; (try simp only [splice, List.set_cons_zero, List.set_cons_succ] at hm)) | ((with_reducible refine gb ?_); (first | refine mem_box hm rfl rfl rfl ?_ | refine mem_box1 hm rfl rfl rfl rfl ?_); clear hm; intro n w hm) | ((with_reducible refine ga ?_); refine mem_alloc hm rfl rfl ?_; clear hm; intro n w hm) | go_values | go_skip | go_guarded | go_step | go_upon | ((with_reducible refine bp ?_); go_back) | ((with_reducible refine up ?_); first | (simp only [Int.not_lt, Int.not_le] at *; go_simp) | (go_values <;> (try go_simp)) | (go_ite <;> go_prune <;> (try go_simp)) | (split <;> (first | (rename_i hx; exact (hx _ rfl).elim) | go_prune))))
      (try simp only [Exit.inBlock, Exit.then])
      (first | (refine ret1 rfl rfl (by (first | exact Res.tmp rfl | exact Res.atw hm rfl | exact Res.at hm rfl)) ?_) | (refine ret2 rfl rfl (by (first | exact Res.tmp rfl | exact Res.atw hm rfl | exact Res.at hm rfl)) (by (first | exact Res.tmp rfl | exact Res.atw hm rfl | exact Res.at hm rfl)) ?_) | (refine ret3 rfl rfl (by (first | exact Res.tmp rfl | exact Res.atw hm rfl | exact Res.at hm rfl)) (by (first | exact Res.tmp rfl | exact Res.atw hm rfl | exact Res.at hm rfl)) (by (first | exact Res.tmp rfl | exact Res.atw hm rfl | exact Res.at hm rfl)) ?_) | (refine ret4 rfl rfl (by (first | exact Res.tmp rfl | exact Res.atw hm rfl | exact Res.at hm rfl)) (by (first | exact Res.tmp rfl | exact Res.atw hm rfl | exact Res.at hm rfl)) (by (first | exact Res.tmp rfl | exact Res.atw hm rfl | exact Res.at hm rfl)) (by (first | exact Res.tmp rfl | exact Res.atw hm rfl | exact Res.at hm rfl)) ?_) | fail "ret")
      exact ⟨by simp only [happ2], hm.below⟩
set_option maxHeartbeats 1000000 in
theorem impl_CrashLog (d p : List UInt8) (nn : Int) (hd : d.length ≤ 1048576) (hp : p.length ≤ 1048576) (keep : Int) (torn : Bool) (w : World) (hE : Env w) : Calls Tryd.prog 24 #[logV d p nn, iv keep, .bool torn] w fun e w' => e = .returned (crashV d p nn keep torn) ∧ Below w.heap.size w w' := by
  have hV := fun (w' : World) (σ : List Blk) (hm : Mem w w' σ) => impl_IsValidLog d p nn hd hp w' (hE.mem hm)
  have hI := impl_in keep 0 p.length
  have h1 := bs_size d
  have h2 := bs_size p
  unfold crashV
  cases hv : validL d p nn
  · rw [hv] at hV
    simp only [Bool.false_and, Bool.false_eq_true, if_false]
    have HV := Lib.hid hV
    clear hV hv hI
    go_enter Tryd.func24, Tryd.ntmps24
    have hm := Mem.start w
    repeat' (first | (go_at_call 22; refine mem_call hm (HV.out _ _ hm) ?_; clear hm; intro w hm; (try simp only [nums, List.map_cons, List.map_nil])) | ((with_reducible refine gix ?_); first | refine mix rfl rfl rfl rfl ?_ | refine mixr rfl rfl rfl rfl ?_; (try simp only [Int.toNat_zero, Int.reduceToNat, Nat.reduceMul, Nat.zero_mul, Nat.one_mul, List.drop_succ_cons, List.drop_zero, List.take_succ_cons, List.take_zero])) | ((with_reducible refine gl ?_); first | refine ml hm rfl rfl rfl ?_ | refine mlw hm rfl rfl rfl ?_ | (refine mlr hm rfl rfl rfl ?_; try simp only [List.drop_succ_cons, List.drop_zero, List.take_succ_cons, List.take_zero])) | ((with_reducible refine gs ?_); (first | refine ms hm rfl rfl rfl rfl rfl ?_ | refine msw hm rfl rfl rfl rfl ?_ | refine msr hm rfl rfl rfl rfl ?_); clear hm; intro w hm; (try simp only [splice, List.set_cons_zero, List.set_cons_succ] at hm)) | ((with_reducible refine gb ?_); (first | refine mem_box hm rfl rfl rfl ?_ | refine mem_box1 hm rfl rfl rfl rfl ?_); clear hm; intro n w hm) | ((with_reducible refine ga ?_); refine mem_alloc hm rfl rfl ?_; clear hm; intro n w hm) | go_values | go_skip | go_guarded | go_step | go_upon | ((with_reducible refine bp ?_); go_back) | ((with_reducible refine up ?_); first | (simp only [Int.not_lt, Int.not_le] at *; go_simp) | (go_values <;> (try go_simp)) | (go_ite <;> go_prune <;> (try go_simp)) | (split <;> (first | (rename_i hx; exact (hx _ rfl).elim) | go_prune))))
    (try simp only [Exit.inBlock, Exit.then])
    (first | (refine ret1 rfl rfl (by (first | exact Res.tmp rfl | exact Res.atw hm rfl | exact Res.at hm rfl)) ?_) | (refine ret2 rfl rfl (by (first | exact Res.tmp rfl | exact Res.atw hm rfl | exact Res.at hm rfl)) (by (first | exact Res.tmp rfl | exact Res.atw hm rfl | exact Res.at hm rfl)) ?_) | (refine ret3 rfl rfl (by (first | exact Res.tmp rfl | exact Res.atw hm rfl | exact Res.at hm rfl)) (by (first | exact Res.tmp rfl | exact Res.atw hm rfl | exact Res.at hm rfl)) (by (first | exact Res.tmp rfl | exact Res.atw hm rfl | exact Res.at hm rfl)) ?_) | (refine ret4 rfl rfl (by (first | exact Res.tmp rfl | exact Res.atw hm rfl | exact Res.at hm rfl)) (by (first | exact Res.tmp rfl | exact Res.atw hm rfl | exact Res.at hm rfl)) (by (first | exact Res.tmp rfl | exact Res.atw hm rfl | exact Res.at hm rfl)) (by (first | exact Res.tmp rfl | exact Res.atw hm rfl | exact Res.at hm rfl)) ?_) | fail "ret")
    exact ⟨rfl, hm.below⟩
  cases hi : inB keep 0 p.length
  · rw [hv] at hV
    rw [hi] at hI
    simp only [Bool.true_and, Bool.false_eq_true, if_false]
    have HV := Lib.hid hV
    have HI := Lib.hid hI
    clear hV hv hI hi
    go_enter Tryd.func24, Tryd.ntmps24
    have hm := Mem.start w
    repeat' (first | (go_at_call 22; refine mem_call hm (HV.out _ _ hm) ?_; clear hm; intro w hm; (try simp only [nums, List.map_cons, List.map_nil])) | (go_at_call 48; refine mem_call hm (HI.out _) ?_; clear hm; intro w hm; (try simp only [nums, List.map_cons, List.map_nil])) | ((with_reducible refine gix ?_); first | refine mix rfl rfl rfl rfl ?_ | refine mixr rfl rfl rfl rfl ?_; (try simp only [Int.toNat_zero, Int.reduceToNat, Nat.reduceMul, Nat.zero_mul, Nat.one_mul, List.drop_succ_cons, List.drop_zero, List.take_succ_cons, List.take_zero])) | ((with_reducible refine gl ?_); first | refine ml hm rfl rfl rfl ?_ | refine mlw hm rfl rfl rfl ?_ | (refine mlr hm rfl rfl rfl ?_; try simp only [List.drop_succ_cons, List.drop_zero, List.take_succ_cons, List.take_zero])) | ((with_reducible refine gs ?_); (first | refine ms hm rfl rfl rfl rfl rfl ?_ | refine msw hm rfl rfl rfl rfl ?_ | refine msr hm rfl rfl rfl rfl ?_); clear hm; intro w hm; (try simp only [splice, List.set_cons_zero, List.set_cons_succ] at hm)) | ((with_reducible refine gb ?_); (first | refine mem_box hm rfl rfl rfl ?_ | refine mem_box1 hm rfl rfl rfl rfl ?_); clear hm; intro n w hm) | ((with_reducible refine ga ?_); refine mem_alloc hm rfl rfl ?_; clear hm; intro n w hm) | go_values | go_skip | go_guarded | go_step | go_upon | ((with_reducible refine bp ?_); go_back) | ((with_reducible refine up ?_); first | (simp only [Int.not_lt, Int.not_le] at *; go_simp) | (go_values <;> (try go_simp)) | (go_ite <;> go_prune <;> (try go_simp)) | (split <;> (first | (rename_i hx; exact (hx _ rfl).elim) | go_prune))))
    (try simp only [Exit.inBlock, Exit.then])
    (first | (refine ret1 rfl rfl (by (first | exact Res.tmp rfl | exact Res.atw hm rfl | exact Res.at hm rfl)) ?_) | (refine ret2 rfl rfl (by (first | exact Res.tmp rfl | exact Res.atw hm rfl | exact Res.at hm rfl)) (by (first | exact Res.tmp rfl | exact Res.atw hm rfl | exact Res.at hm rfl)) ?_) | (refine ret3 rfl rfl (by (first | exact Res.tmp rfl | exact Res.atw hm rfl | exact Res.at hm rfl)) (by (first | exact Res.tmp rfl | exact Res.atw hm rfl | exact Res.at hm rfl)) (by (first | exact Res.tmp rfl | exact Res.atw hm rfl | exact Res.at hm rfl)) ?_) | (refine ret4 rfl rfl (by (first | exact Res.tmp rfl | exact Res.atw hm rfl | exact Res.at hm rfl)) (by (first | exact Res.tmp rfl | exact Res.atw hm rfl | exact Res.at hm rfl)) (by (first | exact Res.tmp rfl | exact Res.atw hm rfl | exact Res.at hm rfl)) (by (first | exact Res.tmp rfl | exact Res.atw hm rfl | exact Res.at hm rfl)) ?_) | fail "ret")
    exact ⟨rfl, hm.below⟩
  rw [hv] at hV
  rw [hi] at hI
  obtain ⟨k, rfl⟩ := Int.eq_ofNat_of_zero_le (inB_iff.1 hi).1
  have hkp : k ≤ p.length := by have := (inB_iff.1 hi).2; omega
  simp only [Bool.and_self, if_true, Int.toNat_natCast]
  unfold crashL
  have hx := bs_ext p 0 k
  rw [List.drop_zero, Nat.sub_zero] at hx
  have hql : (p.take k).length = k := by rw [List.length_take]; omega
  have hta := @tornL_app d (p.take k)
  have htl := tornL_len (p.take k)
  generalize p.take k = q at *
  have hset : 0 < k → ∀ j (h : j < (d ++ q).length), j + 1 = (d ++ q).length → ∀ c : UInt8, (d ++ q)[j] = c → (d ++ q).set j (255 - c) = d ++ tornL q := fun h0 j h hj c e => by
    rw [← e, tornL_set h (by omega)]
    try exact hta (by omega)
  generalize hT : tornL q = T at *
  have h5 : (bs T).size = k := by rw [bs_size, htl, hql]
  have happ := bs_app d q
  have happ2 := bs_app d T
  have HSET := Lib.hid hset
  have h3 := bs_size q
  have h4 := bs_size (d ++ q)
  have hdq : (d ++ q).length = d.length + k := by rw [List.length_append, hql]
  have HV := Lib.hid hV
  have HI := Lib.hid hI
  clear hV hv hI hi hta hset hT
  cases torn
  · simp only [Bool.false_eq_true, false_and, if_false]
    go_enter Tryd.func24, Tryd.ntmps24
    have hm := Mem.start w
    repeat' (first | (go_at_call 22; refine mem_call hm (HV.out _ _ hm) ?_; clear hm; intro w hm; (try simp only [nums, List.map_cons, List.map_nil])) | (go_at_call 48; refine mem_call hm (HI.out _) ?_; clear hm; intro w hm; (try simp only [nums, List.map_cons, List.map_nil])) | ((with_reducible refine gcv ?_); refine mcvb Tryd.underlying53 Tryd.underlying5 Tryd.underlying9 hbb rfl rfl rfl (by first | omega | (simp; omega)) ?_) | ((with_reducible refine gcv ?_); refine mcb (d ++ q) Tryd.underlying9 Tryd.underlying53 Tryd.underlying5 hm rfl rfl rfl ?_; clear hm; intro g9 cap9 w hm hbb) | ((with_reducible refine gqw ?_); first | (refine qw_skipR (by decide +kernel) ?_) | ((with_reducible refine gqsl ?_); refine qw_skip ?_) | ((with_reducible refine gqad ?_); refine qw_skip ?_) | ((with_reducible refine gqcv ?_); refine qw_skip ?_) | ((with_reducible refine gqwl ?_); first | refine qw_load hm rfl (by decide +kernel) rfl rfl rfl (by decide +kernel) (by decide +kernel) (fun _ _ _ _ h => h) ?_ | refine qw_loadW hm rfl (by decide +kernel) rfl rfl rfl (by decide +kernel) (by decide +kernel) (fun _ _ _ _ h => h) ?_ | (refine qw_loadR hm rfl (by decide +kernel) rfl rfl rfl (by decide +kernel) (by decide +kernel) (fun _ _ _ _ h => h) ?_; (try simp only [List.drop_succ_cons, List.drop_zero, List.take_succ_cons, List.take_zero]))) | (refine qw_pure hm (by decide +kernel) (by decide +kernel) rfl (by decide +kernel) (by decide +kernel) (fun _ _ _ _ h => h) (MS.any2 hm) ?_; intro hn K hK; go_simp; (try go_ints); (try simp [↓IntWalk.iteOmega, go_sem]); first | (refine hK _ ?_; clear hK K hn) | (apply Exists.intro; refine ⟨fun _ => ?_, hK _ ?_⟩; (first | rfl | done); clear hK K hn)) | (refine qw_not hm rfl (by decide +kernel) rfl (by decide +kernel) (by decide +kernel) (fun _ _ _ h => h) ?_) | refine qw_skip ?_) | ((with_reducible refine gqwn ?_); first | (refine qw_done (by decide +kernel) ?_; (try simp only [Act.put, List.setIfInBounds_toArray, List.set_cons_zero, List.set_cons_succ])) | refine qw_all (by decide +kernel) ?_) | ((with_reducible refine gaf ?_); first | exact af_end | refine af_skip (by decide +kernel) ?_ | refine af_go ?_ ?_) | ((with_reducible refine exit_go ?_); refine ⟨hm.drop (by first | exact List.Sublist.refl _ | exact List.sublist_cons_self _ _ | (repeat (first | exact List.Sublist.refl _ | (with_reducible refine List.Sublist.cons_cons _ ?_) | refine List.Sublist.cons _ ?_))), ?_⟩) | ((with_reducible refine gd ?_); refine any_start hm (by kernel_rfl) ?_; clear hm; intro w hm) | ((with_reducible refine gix ?_); first | refine mix rfl rfl rfl rfl ?_ | refine mixr rfl rfl rfl rfl ?_; (try simp only [Int.toNat_zero, Int.reduceToNat, Nat.reduceMul, Nat.zero_mul, Nat.one_mul, List.drop_succ_cons, List.drop_zero, List.take_succ_cons, List.take_zero])) | ((with_reducible refine gl ?_); first | refine ml hm rfl rfl rfl ?_ | refine mlw hm rfl rfl rfl ?_ | (refine mlr hm rfl rfl rfl ?_; try simp only [List.drop_succ_cons, List.drop_zero, List.take_succ_cons, List.take_zero])) | ((with_reducible refine gs ?_); (first | refine ms hm rfl rfl rfl rfl rfl ?_ | refine msw hm rfl rfl rfl rfl ?_ | refine msr hm rfl rfl rfl rfl ?_); clear hm; intro w hm; (try simp only [splice, List.set_cons_zero, List.set_cons_succ] at hm)) | ((with_reducible refine gb ?_); (first | refine mem_box hm rfl rfl rfl ?_ | refine mem_box1 hm rfl rfl rfl rfl ?_); clear hm; intro n w hm) | ((with_reducible refine ga ?_); refine mem_alloc hm rfl rfl ?_; clear hm; intro n w hm) | go_values | go_skip | go_guarded | go_step | go_upon | ((with_reducible refine bp ?_); go_back) | ((with_reducible refine up ?_); first | (simp only [Int.not_lt, Int.not_le] at *; go_simp) | (go_values <;> (try go_simp)) | (go_ite <;> go_prune <;> (try go_simp)) | (split <;> (first | (rename_i hx; exact (hx _ rfl).elim) | go_prune))))
    (try simp only [Exit.inBlock, Exit.then])
    (first | (refine ret1 rfl rfl (by (first | exact Res.tmp rfl | exact Res.atw hm rfl | exact Res.at hm rfl)) ?_) | (refine ret2 rfl rfl (by (first | exact Res.tmp rfl | exact Res.atw hm rfl | exact Res.at hm rfl)) (by (first | exact Res.tmp rfl | exact Res.atw hm rfl | exact Res.at hm rfl)) ?_) | (refine ret3 rfl rfl (by (first | exact Res.tmp rfl | exact Res.atw hm rfl | exact Res.at hm rfl)) (by (first | exact Res.tmp rfl | exact Res.atw hm rfl | exact Res.at hm rfl)) (by (first | exact Res.tmp rfl | exact Res.atw hm rfl | exact Res.at hm rfl)) ?_) | (refine ret4 rfl rfl (by (first | exact Res.tmp rfl | exact Res.atw hm rfl | exact Res.at hm rfl)) (by (first | exact Res.tmp rfl | exact Res.atw hm rfl | exact Res.at hm rfl)) (by (first | exact Res.tmp rfl | exact Res.atw hm rfl | exact Res.at hm rfl)) (by (first | exact Res.tmp rfl | exact Res.atw hm rfl | exact Res.at hm rfl)) ?_) | fail "ret")
    exact ⟨by first | simp only [happ] | simp, hm.below⟩
  · by_cases hk0 : k = 0
    · subst hk0
      obtain rfl : q = [] := List.length_eq_zero_iff.1 hql
      simp only [Nat.lt_irrefl, and_false, if_false]
      go_enter Tryd.func24, Tryd.ntmps24
      have hm := Mem.start w
      repeat' (first | (go_at_call 22; refine mem_call hm (HV.out _ _ hm) ?_; clear hm; intro w hm; (try simp only [nums, List.map_cons, List.map_nil])) | (go_at_call 48; refine mem_call hm (HI.out _) ?_; clear hm; intro w hm; (try simp only [nums, List.map_cons, List.map_nil])) | ((with_reducible refine gcv ?_); refine mcvb Tryd.underlying53 Tryd.underlying5 Tryd.underlying9 hbb rfl rfl rfl (by first | omega | (simp; omega)) ?_) | ((with_reducible refine gcv ?_); refine mcb (d) Tryd.underlying9 Tryd.underlying53 Tryd.underlying5 hm rfl rfl rfl ?_; clear hm; intro g9 cap9 w hm hbb) | ((with_reducible refine gqw ?_); first | (refine qw_skipR (by decide +kernel) ?_) | ((with_reducible refine gqsl ?_); refine qw_skip ?_) | ((with_reducible refine gqad ?_); refine qw_skip ?_) | ((with_reducible refine gqcv ?_); refine qw_skip ?_) | ((with_reducible refine gqwl ?_); first | refine qw_load hm rfl (by decide +kernel) rfl rfl rfl (by decide +kernel) (by decide +kernel) (fun _ _ _ _ h => h) ?_ | refine qw_loadW hm rfl (by decide +kernel) rfl rfl rfl (by decide +kernel) (by decide +kernel) (fun _ _ _ _ h => h) ?_ | (refine qw_loadR hm rfl (by decide +kernel) rfl rfl rfl (by decide +kernel) (by decide +kernel) (fun _ _ _ _ h => h) ?_; (try simp only [List.drop_succ_cons, List.drop_zero, List.take_succ_cons, List.take_zero]))) | (refine qw_pure hm (by decide +kernel) (by decide +kernel) rfl (by decide +kernel) (by decide +kernel) (fun _ _ _ _ h => h) (MS.any2 hm) ?_; intro hn K hK; go_simp; (try go_ints); (try simp [↓IntWalk.iteOmega, go_sem]); first | (refine hK _ ?_; clear hK K hn) | (apply Exists.intro; refine ⟨fun _ => ?_, hK _ ?_⟩; (first | rfl | done); clear hK K hn)) | (refine qw_not hm rfl (by decide +kernel) rfl (by decide +kernel) (by decide +kernel) (fun _ _ _ h => h) ?_) | refine qw_skip ?_) | ((with_reducible refine gqwn ?_); first | (refine qw_done (by decide +kernel) ?_; (try simp only [Act.put, List.setIfInBounds_toArray, List.set_cons_zero, List.set_cons_succ])) | refine qw_all (by decide +kernel) ?_) | ((with_reducible refine gaf ?_); first | exact af_end | refine af_skip (by decide +kernel) ?_ | refine af_go ?_ ?_) | ((with_reducible refine exit_go ?_); refine ⟨hm.drop (by first | exact List.Sublist.refl _ | exact List.sublist_cons_self _ _ | (repeat (first | exact List.Sublist.refl _ | (with_reducible refine List.Sublist.cons_cons _ ?_) | refine List.Sublist.cons _ ?_))), ?_⟩) | ((with_reducible refine gd ?_); refine any_start hm (by kernel_rfl) ?_; clear hm; intro w hm) | ((with_reducible refine gix ?_); first | refine mix rfl rfl rfl rfl ?_ | refine mixr rfl rfl rfl rfl ?_; (try simp only [Int.toNat_zero, Int.reduceToNat, Nat.reduceMul, Nat.zero_mul, Nat.one_mul, List.drop_succ_cons, List.drop_zero, List.take_succ_cons, List.take_zero])) | ((with_reducible refine gl ?_); first | refine ml hm rfl rfl rfl ?_ | refine mlw hm rfl rfl rfl ?_ | (refine mlr hm rfl rfl rfl ?_; try simp only [List.drop_succ_cons, List.drop_zero, List.take_succ_cons, List.take_zero])) | ((with_reducible refine gs ?_); (first | refine ms hm rfl rfl rfl rfl rfl ?_ | refine msw hm rfl rfl rfl rfl ?_ | refine msr hm rfl rfl rfl rfl ?_); clear hm; intro w hm; (try simp only [splice, List.set_cons_zero, List.set_cons_succ] at hm)) | ((with_reducible refine gb ?_); (first | refine mem_box hm rfl rfl rfl ?_ | refine mem_box1 hm rfl rfl rfl rfl ?_); clear hm; intro n w hm) | ((with_reducible refine ga ?_); refine mem_alloc hm rfl rfl ?_; clear hm; intro n w hm) | go_values | go_skip | go_guarded | go_step | go_upon | ((with_reducible refine bp ?_); go_back) | ((with_reducible refine up ?_); first | (simp only [Int.not_lt, Int.not_le] at *; go_simp) | (go_values <;> (try go_simp)) | (go_ite <;> go_prune <;> (try go_simp)) | (split <;> (first | (rename_i hx; exact (hx _ rfl).elim) | go_prune))))
      (try simp only [Exit.inBlock, Exit.then])
      (first | (refine ret1 rfl rfl (by (first | exact Res.tmp rfl | exact Res.atw hm rfl | exact Res.at hm rfl)) ?_) | (refine ret2 rfl rfl (by (first | exact Res.tmp rfl | exact Res.atw hm rfl | exact Res.at hm rfl)) (by (first | exact Res.tmp rfl | exact Res.atw hm rfl | exact Res.at hm rfl)) ?_) | (refine ret3 rfl rfl (by (first | exact Res.tmp rfl | exact Res.atw hm rfl | exact Res.at hm rfl)) (by (first | exact Res.tmp rfl | exact Res.atw hm rfl | exact Res.at hm rfl)) (by (first | exact Res.tmp rfl | exact Res.atw hm rfl | exact Res.at hm rfl)) ?_) | (refine ret4 rfl rfl (by (first | exact Res.tmp rfl | exact Res.atw hm rfl | exact Res.at hm rfl)) (by (first | exact Res.tmp rfl | exact Res.atw hm rfl | exact Res.at hm rfl)) (by (first | exact Res.tmp rfl | exact Res.atw hm rfl | exact Res.at hm rfl)) (by (first | exact Res.tmp rfl | exact Res.atw hm rfl | exact Res.at hm rfl)) ?_) | fail "ret")
      exact ⟨by first | simp only [happ] | simp, hm.below⟩
    · have hkp0 : 0 < k := Nat.pos_of_ne_zero hk0
      simp only [hkp0, and_self, if_true]
      go_enter Tryd.func24, Tryd.ntmps24
      have hm := Mem.start w
      repeat' (first | ((with_reducible refine gl ?_); refine mlb2 hbb rfl rfl rfl (by omega) ?_; intro c9 hc9 hc256) | ((with_reducible refine gs ?_); refine msb (255 - c9) hm hbb rfl rfl rfl (congrArg some (congrArg (Value.int IntKind.u8) (u8_neg c9).symm)) (by omega) ?_; clear hm hbb; intro w hm hbb; rw [HSET.out hkp0 _ (by omega) (by omega) c9 hc9] at hbb; clear hc9 hc256) | (go_at_call 22; refine mem_call hm (HV.out _ _ hm) ?_; clear hm; intro w hm; (try simp only [nums, List.map_cons, List.map_nil])) | (go_at_call 48; refine mem_call hm (HI.out _) ?_; clear hm; intro w hm; (try simp only [nums, List.map_cons, List.map_nil])) | ((with_reducible refine gcv ?_); refine mcvb Tryd.underlying53 Tryd.underlying5 Tryd.underlying9 hbb rfl rfl rfl (by first | omega | (simp; omega)) ?_) | ((with_reducible refine gcv ?_); refine mcb (d ++ q) Tryd.underlying9 Tryd.underlying53 Tryd.underlying5 hm rfl rfl rfl ?_; clear hm; intro g9 cap9 w hm hbb) | ((with_reducible refine gqw ?_); first | (refine qw_skipR (by decide +kernel) ?_) | ((with_reducible refine gqsl ?_); refine qw_skip ?_) | ((with_reducible refine gqad ?_); refine qw_skip ?_) | ((with_reducible refine gqcv ?_); refine qw_skip ?_) | ((with_reducible refine gqwl ?_); first | refine qw_load hm rfl (by decide +kernel) rfl rfl rfl (by decide +kernel) (by decide +kernel) (fun _ _ _ _ h => h) ?_ | refine qw_loadW hm rfl (by decide +kernel) rfl rfl rfl (by decide +kernel) (by decide +kernel) (fun _ _ _ _ h => h) ?_ | (refine qw_loadR hm rfl (by decide +kernel) rfl rfl rfl (by decide +kernel) (by decide +kernel) (fun _ _ _ _ h => h) ?_; (try simp only [List.drop_succ_cons, List.drop_zero, List.take_succ_cons, List.take_zero]))) | (refine qw_pure hm (by decide +kernel) (by decide +kernel) rfl (by decide +kernel) (by decide +kernel) (fun _ _ _ _ h => h) (MS.any2 hm) ?_; intro hn K hK; go_simp; (try go_ints); (try simp [↓IntWalk.iteOmega, go_sem]); first | (refine hK _ ?_; clear hK K hn) | (apply Exists.intro; refine ⟨fun _ => ?_, hK _ ?_⟩; (first | rfl | done); clear hK K hn)) | (refine qw_not hm rfl (by decide +kernel) rfl (by decide +kernel) (by decide +kernel) (fun _ _ _ h => h) ?_) | refine qw_skip ?_) | ((with_reducible refine gqwn ?_); first | (refine qw_done (by decide +kernel) ?_; (try simp only [Act.put, List.setIfInBounds_toArray, List.set_cons_zero, List.set_cons_succ])) | refine qw_all (by decide +kernel) ?_) | ((with_reducible refine gaf ?_); first | exact af_end | refine af_skip (by decide +kernel) ?_ | refine af_go ?_ ?_) | ((with_reducible refine exit_go ?_); refine ⟨hm.drop (by first | exact List.Sublist.refl _ | exact List.sublist_cons_self _ _ | (repeat (first | exact List.Sublist.refl _ | (with_reducible refine List.Sublist.cons_cons _ ?_) | refine List.Sublist.cons _ ?_))), ?_⟩) | ((with_reducible refine gd ?_); refine any_start hm (by kernel_rfl) ?_; clear hm; intro w hm) | ((with_reducible refine gix ?_); first | refine mix rfl rfl rfl rfl ?_ | refine mixr rfl rfl rfl rfl ?_; (try simp only [Int.toNat_zero, Int.reduceToNat, Nat.reduceMul, Nat.zero_mul, Nat.one_mul, List.drop_succ_cons, List.drop_zero, List.take_succ_cons, List.take_zero])) | ((with_reducible refine gl ?_); first | refine ml hm rfl rfl rfl ?_ | refine mlw hm rfl rfl rfl ?_ | (refine mlr hm rfl rfl rfl ?_; try simp only [List.drop_succ_cons, List.drop_zero, List.take_succ_cons, List.take_zero])) | ((with_reducible refine gs ?_); (first | refine ms hm rfl rfl rfl rfl rfl ?_ | refine msw hm rfl rfl rfl rfl ?_ | refine msr hm rfl rfl rfl rfl ?_); clear hm; intro w hm; (try simp only [splice, List.set_cons_zero, List.set_cons_succ] at hm)) | ((with_reducible refine gb ?_); (first | refine mem_box hm rfl rfl rfl ?_ | refine mem_box1 hm rfl rfl rfl rfl ?_); clear hm; intro n w hm) | ((with_reducible refine ga ?_); refine mem_alloc hm rfl rfl ?_; clear hm; intro n w hm) | go_values | go_skip | go_guarded | go_step | go_upon | ((with_reducible refine bp ?_); go_back) | ((with_reducible refine up ?_); first | (simp only [Int.not_lt, Int.not_le] at *; go_simp) | (go_values <;> (try go_simp)) | (go_ite <;> go_prune <;> (try go_simp)) | (split <;> (first | (rename_i hx; exact (hx _ rfl).elim) | go_prune))))
      (try simp only [Exit.inBlock, Exit.then])
      (first | (refine ret1 rfl rfl (by (first | exact Res.tmp rfl | exact Res.atw hm rfl | exact Res.at hm rfl)) ?_) | (refine ret2 rfl rfl (by (first | exact Res.tmp rfl | exact Res.atw hm rfl | exact Res.at hm rfl)) (by (first | exact Res.tmp rfl | exact Res.atw hm rfl | exact Res.at hm rfl)) ?_) | (refine ret3 rfl rfl (by (first | exact Res.tmp rfl | exact Res.atw hm rfl | exact Res.at hm rfl)) (by (first | exact Res.tmp rfl | exact Res.atw hm rfl | exact Res.at hm rfl)) (by (first | exact Res.tmp rfl | exact Res.atw hm rfl | exact Res.at hm rfl)) ?_) | (refine ret4 rfl rfl (by (first | exact Res.tmp rfl | exact Res.atw hm rfl | exact Res.at hm rfl)) (by (first | exact Res.tmp rfl | exact Res.atw hm rfl | exact Res.at hm rfl)) (by (first | exact Res.tmp rfl | exact Res.atw hm rfl | exact Res.at hm rfl)) (by (first | exact Res.tmp rfl | exact Res.atw hm rfl | exact Res.at hm rfl)) ?_) | fail "ret")
      exact ⟨by simp only [happ2], hm.below⟩
end Go.Proofs.YtjmolkamaeonmaaDoor
