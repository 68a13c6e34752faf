/-
  Walks of the draws: the code's bytes, the next byte, a choice.
-/
import Derived.Test.YtlhchjjegaflhaaCommon
import Derived.Test.YtlhchjjegaflhaaAny
import Derived.WalkSmall
import Derived.Deep.Slices
set_option linter.unusedVariables false
set_option linter.unusedSimpArgs false
namespace Go.Proofs.Ytlhchjjegaflhaa
open Go.RowKit Slm Go.ChangeShapes Go.WideShapes Go.ChangeAt Go.Deep
/-- A byte as a value. -/
abbrev u8w (b : Nat) : Value := .int .u8 (b : Int)
def bytesV (l : List Nat) : List Value := l.map u8w
theorem bytesV_len (l : List Nat) : (bytesV l).length = l.length := List.length_map ..
theorem bytesV_get {l : List Nat} {k : Nat} (h : k < l.length) (more : List Value) : (bytesV l ++ more)[k]? = some (u8w l[k]) := by
  rw [List.getElem?_append_left (by rw [bytesV_len]; exact h), bytesV, List.getElem?_map, List.getElem?_eq_getElem h]; rfl
/-- A code's bytes lay in memory before the call. -/
class OldCode (w0 : World) (g : Option Addr) (l : List Nat) : Prop where out : l ≠ [] → ∃ n off, g = some ⟨n, off, none⟩ ∧ ∀ k (h : k < l.length), w0.cell? ⟨n, off + k, none⟩ = some (u8w l[k])
theorem OldCode.next {w0 w : World} {σ : List Blk} {g : Option Addr} {l : List Nat} (h : OldCode w0 g l) (hm : Mem w0 w σ) : OldCode w g l := ⟨fun hl => by
  obtain ⟨n, off, e, hc⟩ := h.out hl
  exact ⟨n, off, e, fun k hk => by have := hc k hk; exact (hm.old (World.block_lt_of_cell? w0 _ this)).trans this⟩⟩
theorem OldCode.own {w0 w : World} {σ : List Blk} {g i : Nat} {l : List Nat} {more : List Value} {t : TypeId} (hm : Mem w0 w σ) [hA : At σ g (bytesV l ++ more) t i] : OldCode w (some ⟨g, 0, none⟩) l := ⟨fun hl =>
  ⟨g, 0, rfl, fun k hk => by rw [Nat.zero_add]; exact (hm.cell (.of hA.out) k).trans (bytesV_get hk more)⟩⟩
theorem list_of9 {α : Type} {p : Nat → α → Prop} : ∀ (n : Nat), (∀ i, i < n → ∃ x, p i x) → ∃ l : List α, l.length = n ∧ ∀ i (h : i < l.length), p i l[i]
  | 0, _ => ⟨[], rfl, fun i h => by simp at h⟩
  | n + 1, h => by
    obtain ⟨l, hl, hp⟩ := list_of9 n (fun i hi => h i (by omega))
    obtain ⟨x, hx⟩ := h n (by omega)
    refine ⟨l ++ [x], by simp [hl], fun i hi => ?_⟩
    by_cases hi' : i < l.length
    · rw [List.getElem_append_left hi']; exact hp i hi'
    · obtain rfl : i = l.length := by simp at hi; omega
      rw [List.getElem_append_right (by omega)]
      simp only [Nat.sub_self, List.getElem_cons_zero]
      rw [hl]; exact hx
section
variable {H : Type} {enc : TypeId × Value → H} {P : Program} {w : World} {base : Nat} {spare : Nat → Bool} {held : Bool}
/-- A code as it is handed over. -/
theorem open_code {tl te : TypeId} {fuel : Nat} {g : Option Addr} {len cap : Nat} {y : DataW H × List MemPlace} (ht : P.underlying tl = some (.slice te)) (hc : P.cellsOf te = 1) (hi : P.underlying te = some (.int .u8))
    (h : DataW.trod enc P w base spare held fuel tl [.slice g len cap] = some y) : ∃ l : List Nat, len = l.length ∧ OldCode w g l ∧ (∀ x ∈ l, x < 256) ∧ len ≤ cap ∧ cap ≤ maxLen := by
  rcases Go.Deep.open_slice1 ht hc h with ⟨h0, _⟩ | ⟨a, len2, cap2, m, n, V, D, Pl, hv, hb, hle, hm, hmm, _, hx⟩
  · simp only [List.cons.injEq, and_true, Value.slice.injEq] at h0
    obtain ⟨rfl, rfl, rfl⟩ := h0
    exact ⟨[], rfl, ⟨fun h => absurd rfl h⟩, by simp, by omega, by omega⟩
  simp only [List.cons.injEq, and_true, Value.slice.injEq] at hv
  obtain ⟨rfl, rfl, rfl⟩ := hv
  have hml : len ≤ m := by rw [hmm]; split <;> omega
  have h1 : ∀ i, i < len → ∃ s : Nat, w.cell? (a.add i) = some (u8w s) ∧ s < 256 := fun i hi' => by
    obtain ⟨e1, e2⟩ := hx i (by omega)
    obtain ⟨v, hv, _, hwf⟩ := DataW.trod_int hi e2
    simp only [List.cons.injEq, and_true] at hv
    have hb8 := bounds_u8 hwf
    obtain ⟨s, rfl⟩ := Int.eq_ofNat_of_zero_le hb8.1
    exact ⟨s, by rw [e1, hv], by omega⟩
  obtain ⟨S, hSl, hS⟩ := list_of9 len h1
  subst hSl
  refine ⟨S, rfl, ⟨fun hne => ?_⟩, fun s hs => ?_, hle, hm⟩
  · have hpos : 0 < S.length := List.length_pos_iff.2 hne
    have h4 := (hS 0 hpos).1
    simp only [Addr.add, if_true] at h4
    have hsp : a.spot = none := World.cell?_spot (v := u8w S[0]) h4
    obtain ⟨blk, off, sp⟩ := a
    simp only at hsp
    subst hsp
    refine ⟨blk, off, rfl, fun k hk => ?_⟩
    rw [← (hS k hk).1]
    congr 1
    unfold Addr.add
    by_cases hk0 : k = 0 <;> simp [hk0]
  · obtain ⟨i, hi', rfl⟩ := List.getElem_of_mem hs
    exact (hS i hi').2
end
theorem wrap_u64 (v : Int) : 0 ≤ IntKind.u64.wrap v ∧ IntKind.u64.wrap v < 18446744073709551616 := by
  simp [IntKind.wrap, IntKind.signed, IntKind.bits]
  omega
theorem and_255 (E : Int) (h : 0 ≤ E ∧ E < 18446744073709551616) : 0 ≤ wrap64 (bits BinOp.and IntKind.u64 E 255) ∧ wrap64 (bits BinOp.and IntKind.u64 E 255) ≤ 255 := by
  obtain ⟨n, rfl⟩ := Int.eq_ofNat_of_zero_le h.1
  have hb : bits BinOp.and IntKind.u64 (n : Int) 255 = ((n &&& 255 : Nat) : Int) := bits_and_u64_nat n 255 (by omega) (by omega)
  have h2 : n &&& 255 ≤ 255 := Nat.and_le_right
  rw [hb]
  unfold wrap64
  omega
set_option maxRecDepth 20000 in
theorem spec_next {w0 w : World} {σ : List Blk} {nc cap : Nat} {g : Option Addr} {at9 : Nat} {sd : Int} {l : List Nat} (hl : l.length ≤ 70000) (hb : ∀ x ∈ l, x < 256) (hat : at9 ≤ 1000000) (hsd : 0 ≤ sd ∧ sd < 18446744073709551616) (hm : Mem w0 w (⟨nc, [.slice g l.length cap, iv at9, .int .u64 sd], 69⟩ :: σ)) [hA : OldCode w0 g l] :
    Calls Try.prog 96 #[.pointer (some ⟨nc, 0, none⟩)] w fun e w' => ∃ (x sd' : Int), e = .returned (iv x) ∧ (0 ≤ x ∧ x ≤ 255) ∧ (0 ≤ sd' ∧ sd' < 18446744073709551616) ∧ Mem w0 w' (⟨nc, [.slice g l.length cap, iv ((at9 : Int) + 1), .int .u64 sd'], 69⟩ :: σ) := by
  by_cases hlt : at9 < l.length
  · obtain ⟨n8, off8, rfl, hc8⟩ := hA.out (by intro e; subst e; simp at hlt)
    have hv := hc8 at9 hlt
    have hx := hb _ (List.getElem_mem hlt)
    generalize l[at9] = x at *
    have hx2 : (x : Int) < 256 := by omega
    clear hb hc8 hA
    have hle : (at9 : Int) + 1 ≤ l.length := by omega
    go_enter Try.func96, Try.ntmps96
    repeat' (first | ((with_reducible refine gd ?_); refine mq_start hm (by kernel_rfl) (by kernel_rfl) ?_; intro hne; (repeat (first | ((with_reducible refine gq ?_); first | refine qlo rfl rfl rfl ?_ hv | refine ql rfl rfl rfl ?_ | (refine qlr rfl rfl rfl ?_; try simp only [List.drop_succ_cons, List.drop_zero, List.take_succ_cons, List.take_zero])) | (refine wpQuiet_step (fun K hK => ?_); go_simp; first | (refine hK _ ?_; clear hK K) | (apply Exists.intro; refine ⟨fun _ => ?_, hK _ ?_⟩; (first | fail); clear hK K)))); refine wpQuiet_nil ?_; clear hm hne; intro w hm) | ((with_reducible refine gd ?_); refine mf_start (st := []) hm (by kernel_rfl) (by kernel_rfl) rfl ?_; intro hne; (repeat (first | ((with_reducible refine gfl ?_); first | refine fl rfl rfl rfl ?_ | refine flw rfl rfl rfl ?_ | (refine flr rfl rfl rfl ?_; try simp only [List.drop_succ_cons, List.drop_zero, List.take_succ_cons, List.take_zero])) | ((with_reducible refine gfs ?_); first | refine fs rfl rfl rfl rfl rfl ?_ | refine fsw rfl rfl rfl rfl ?_ | refine fsr rfl rfl rfl rfl ?_) | (refine wpF_step (by rfl) (hne _ (by decide)) ?_; intro hn K hK; go_simp; (try go_ints); (try simp [↓IntWalk.iteOmega, go_sem]); first | (refine hK _ ?_; clear hK K hn) | (apply Exists.intro; refine ⟨fun _ => ?_, hK _ ?_⟩; (first | fail | fail); clear hK K hn)))); refine wpF_nil ?_; clear hm hne; intro w hm; (try simp only [famEnd, modB, splice, List.set_cons_zero, List.set_cons_succ, set_iv] at hm)) | ((with_reducible refine gix ?_); first | refine mix rfl rfl rfl rfl ?_ | refine mixr rfl rfl rfl rfl ?_; (try simp only [Int.toNat_zero, Int.reduceToNat, Nat.reduceMul, Nat.zero_mul, Nat.one_mul, List.drop_succ_cons, List.drop_zero, List.take_succ_cons, List.take_zero])) | ((with_reducible refine gl ?_); first | refine ml hm rfl rfl rfl ?_ | refine mlw hm rfl rfl rfl ?_ | (refine mlr hm rfl rfl rfl ?_; try simp only [List.drop_succ_cons, List.drop_zero, List.take_succ_cons, List.take_zero])) | ((with_reducible refine gs ?_); (first | refine ms hm rfl rfl rfl rfl rfl ?_ | refine msw hm rfl rfl rfl rfl ?_ | refine msr hm rfl rfl rfl rfl ?_); clear hm; intro w hm; (try simp only [splice, List.set_cons_zero, List.set_cons_succ] at hm)) | ((with_reducible refine gb ?_); (first | refine mem_box hm rfl rfl rfl ?_ | refine mem_box1 hm rfl rfl rfl rfl ?_); clear hm; intro n w hm) | ((with_reducible refine ga ?_); refine mem_alloc hm rfl rfl ?_; clear hm; intro n w hm) | go_values | go_skip | go_guarded | go_step | go_upon | ((with_reducible refine bp ?_); go_back) | ((with_reducible refine up ?_); first | (simp only [Int.not_lt, Int.not_le] at *; go_simp) | (go_values <;> (try go_simp)) | (go_ite <;> go_prune <;> (try go_simp)) | (split <;> (first | (rename_i hx; exact (hx _ rfl).elim) | go_prune))))
    (try simp only [Exit.inBlock, Exit.then])
    (first | (refine ret1 rfl rfl (by (first | exact Res.tmp rfl | exact Res.atw hm rfl | exact Res.at hm rfl)) ?_) | (refine ret2 rfl rfl (by (first | exact Res.tmp rfl | exact Res.atw hm rfl | exact Res.at hm rfl)) (by (first | exact Res.tmp rfl | exact Res.atw hm rfl | exact Res.at hm rfl)) ?_) | (refine ret3 rfl rfl (by (first | exact Res.tmp rfl | exact Res.atw hm rfl | exact Res.at hm rfl)) (by (first | exact Res.tmp rfl | exact Res.atw hm rfl | exact Res.at hm rfl)) (by (first | exact Res.tmp rfl | exact Res.atw hm rfl | exact Res.at hm rfl)) ?_) | (refine ret4 rfl rfl (by (first | exact Res.tmp rfl | exact Res.atw hm rfl | exact Res.at hm rfl)) (by (first | exact Res.tmp rfl | exact Res.atw hm rfl | exact Res.at hm rfl)) (by (first | exact Res.tmp rfl | exact Res.atw hm rfl | exact Res.at hm rfl)) (by (first | exact Res.tmp rfl | exact Res.atw hm rfl | exact Res.at hm rfl)) ?_) | fail "ret")
    exact ⟨_, _, rfl, ⟨by omega, by omega⟩, wrap_u64 _, hm⟩
  · have hle : ¬ (at9 : Int) < l.length := by omega
    have hle2 : ¬ (at9 : Int) + 1 ≤ l.length := by omega
    go_enter Try.func96, Try.ntmps96
    repeat' (first | ((with_reducible refine gd ?_); refine mf_start (st := []) hm (by kernel_rfl) (by kernel_rfl) rfl ?_; intro hne; (repeat (first | ((with_reducible refine gfl ?_); first | refine fl rfl rfl rfl ?_ | refine flw rfl rfl rfl ?_ | (refine flr rfl rfl rfl ?_; try simp only [List.drop_succ_cons, List.drop_zero, List.take_succ_cons, List.take_zero])) | ((with_reducible refine gfs ?_); first | refine fs rfl rfl rfl rfl rfl ?_ | refine fsw rfl rfl rfl rfl ?_ | refine fsr rfl rfl rfl rfl ?_) | (refine wpF_step (by rfl) (hne _ (by decide)) ?_; intro hn K hK; go_simp; (try go_ints); (try simp [↓IntWalk.iteOmega, go_sem]); first | (refine hK _ ?_; clear hK K hn) | (apply Exists.intro; refine ⟨fun _ => ?_, hK _ ?_⟩; (first | fail | fail); clear hK K hn)))); refine wpF_nil ?_; clear hm hne; intro w hm; (try simp only [famEnd, modB, splice, List.set_cons_zero, List.set_cons_succ, set_iv] at hm)) | ((with_reducible refine gix ?_); first | refine mix rfl rfl rfl rfl ?_ | refine mixr rfl rfl rfl rfl ?_; (try simp only [Int.toNat_zero, Int.reduceToNat, Nat.reduceMul, Nat.zero_mul, Nat.one_mul, List.drop_succ_cons, List.drop_zero, List.take_succ_cons, List.take_zero])) | ((with_reducible refine gl ?_); first | refine ml hm rfl rfl rfl ?_ | refine mlw hm rfl rfl rfl ?_ | (refine mlr hm rfl rfl rfl ?_; try simp only [List.drop_succ_cons, List.drop_zero, List.take_succ_cons, List.take_zero])) | ((with_reducible refine gs ?_); (first | refine ms hm rfl rfl rfl rfl rfl ?_ | refine msw hm rfl rfl rfl rfl ?_ | refine msr hm rfl rfl rfl rfl ?_); clear hm; intro w hm; (try simp only [splice, List.set_cons_zero, List.set_cons_succ] at hm)) | ((with_reducible refine gb ?_); (first | refine mem_box hm rfl rfl rfl ?_ | refine mem_box1 hm rfl rfl rfl rfl ?_); clear hm; intro n w hm) | ((with_reducible refine ga ?_); refine mem_alloc hm rfl rfl ?_; clear hm; intro n w hm) | go_values | go_skip | go_guarded | go_step | go_upon | ((with_reducible refine bp ?_); go_back) | ((with_reducible refine up ?_); first | (simp only [Int.not_lt, Int.not_le] at *; go_simp) | (go_values <;> (try go_simp)) | (go_ite <;> go_prune <;> (try go_simp)) | (split <;> (first | (rename_i hx; exact (hx _ rfl).elim) | go_prune))))
    (try simp only [Exit.inBlock, Exit.then])
    (first | (refine ret1 rfl rfl (by (first | exact Res.tmp rfl | exact Res.atw hm rfl | exact Res.at hm rfl)) ?_) | (refine ret2 rfl rfl (by (first | exact Res.tmp rfl | exact Res.atw hm rfl | exact Res.at hm rfl)) (by (first | exact Res.tmp rfl | exact Res.atw hm rfl | exact Res.at hm rfl)) ?_) | (refine ret3 rfl rfl (by (first | exact Res.tmp rfl | exact Res.atw hm rfl | exact Res.at hm rfl)) (by (first | exact Res.tmp rfl | exact Res.atw hm rfl | exact Res.at hm rfl)) (by (first | exact Res.tmp rfl | exact Res.atw hm rfl | exact Res.at hm rfl)) ?_) | (refine ret4 rfl rfl (by (first | exact Res.tmp rfl | exact Res.atw hm rfl | exact Res.at hm rfl)) (by (first | exact Res.tmp rfl | exact Res.atw hm rfl | exact Res.at hm rfl)) (by (first | exact Res.tmp rfl | exact Res.atw hm rfl | exact Res.at hm rfl)) (by (first | exact Res.tmp rfl | exact Res.atw hm rfl | exact Res.at hm rfl)) ?_) | fail "ret")
    exact ⟨_, _, rfl, and_255 _ ⟨by have := (wrap_u64 (IntKind.u64.wrap (IntKind.u64.wrap (sd * 6364136223846793005)) + 462197)).1; omega, by have := (wrap_u64 (IntKind.u64.wrap (IntKind.u64.wrap (sd * 6364136223846793005)) + 462197)).2; omega⟩, wrap_u64 _, hm⟩
section
variable {P : Program} {w0 w : World} {σ : List Blk}
theorem mem_callNx {f : FuncId} {args : Array Value} {R : Ending → World → Prop} {nc : Nat} {sl : Value} {a : Int} {T : TypeId} (h : Calls P f args w fun e w' => ∃ (x sd' : Int), e = .returned (iv x) ∧ (0 ≤ x ∧ x ≤ 255) ∧ (0 ≤ sd' ∧ sd' < 18446744073709551616) ∧ Mem w0 w' (⟨nc, [sl, iv a, .int .u64 sd'], T⟩ :: σ))
    (k : ∀ x sd' w', (0 ≤ x ∧ x ≤ 255) → (0 ≤ sd' ∧ sd' < 18446744073709551616) → Mem w0 w' (⟨nc, [sl, iv a, .int .u64 sd'], T⟩ :: σ) → R (.returned (iv x)) w') : Calls P f args w R :=
  h.mono fun e w' ⟨x, sd', he, hx, hs, hm⟩ => by subst he; exact k x sd' w' hx hs hm
end
/-- The cursor of a draw. -/
def curB (nc : Nat) (g : Option Addr) (len cap : Nat) (at9 : Nat) (sd : Int) : Blk := ⟨nc, [.slice g len cap, iv at9, .int .u64 sd], 69⟩
set_option maxHeartbeats 1000000 in
theorem spec_pick {w0 w : World} {σ : List Blk} {nc cap : Nat} {g : Option Addr} {at9 : Nat} {sd : Int} {l : List Nat} (hl : l.length ≤ 70000) (hb : ∀ x ∈ l, x < 256) (hat : at9 ≤ 900000) (hsd : 0 ≤ sd ∧ sd < 18446744073709551616) (nn : Int) (hm : Mem w0 w (curB nc g l.length cap at9 sd :: σ)) [hA : OldCode w0 g l] :
    Calls Try.prog 63 #[.pointer (some ⟨nc, 0, none⟩), iv nn] w fun e w' => ∃ (x : Int) (at' : Nat) (sd' : Int), e = .returned (iv x) ∧ (0 ≤ x ∧ (x < nn ∨ x = 0)) ∧ at' ≤ at9 + 2 ∧ (0 ≤ sd' ∧ sd' < 18446744073709551616) ∧ Mem w0 w' (curB nc g l.length cap at' sd' :: σ) := by
  unfold curB at *
  have hN := fun (w : World) (a : Nat) (s : Int) (ha : a ≤ 1000000) (hs : 0 ≤ s ∧ s < 18446744073709551616) (hm : Mem w0 w (⟨nc, [.slice g l.length cap, iv a, .int .u64 s], 69⟩ :: σ)) => spec_next (cap := cap) hl hb ha hs hm
  have HN := Lib.hid hN
  clear hN hb
  by_cases h1 : nn ≤ 1
  · go_enter Try.func63, Try.ntmps63
    repeat' (first  | ((with_reducible refine gix ?_); first | refine mix rfl rfl rfl rfl ?_ | refine mixr rfl rfl rfl rfl ?_; (try simp only [Int.toNat_zero, Int.reduceToNat, Nat.reduceMul, Nat.zero_mul, Nat.one_mul, List.drop_succ_cons, List.drop_zero, List.take_succ_cons, List.take_zero])) | ((with_reducible refine gl ?_); first | refine ml hm rfl rfl rfl ?_ | refine mlw hm rfl rfl rfl ?_ | (refine mlr hm rfl rfl rfl ?_; try simp only [List.drop_succ_cons, List.drop_zero, List.take_succ_cons, List.take_zero])) | ((with_reducible refine gs ?_); (first | refine ms hm rfl rfl rfl rfl rfl ?_ | refine msw hm rfl rfl rfl rfl ?_ | refine msr hm rfl rfl rfl rfl ?_); clear hm; intro w hm; (try simp only [splice, List.set_cons_zero, List.set_cons_succ] at hm)) | ((with_reducible refine gb ?_); (first | refine mem_box hm rfl rfl rfl ?_ | refine mem_box1 hm rfl rfl rfl rfl ?_); clear hm; intro n w hm) | ((with_reducible refine ga ?_); refine mem_alloc hm rfl rfl ?_; clear hm; intro n w hm) | go_values | go_skip | go_guarded | go_step | go_upon | ((with_reducible refine bp ?_); go_back) | ((with_reducible refine up ?_); first | (simp only [Int.not_lt, Int.not_le] at *; go_simp) | (go_values <;> (try go_simp)) | (go_ite <;> go_prune <;> (try go_simp)) | (split <;> (first | (rename_i hx; exact (hx _ rfl).elim) | go_prune))))
    (try simp only [Exit.inBlock, Exit.then])
    (first | (refine ret1 rfl rfl (by (first | exact Res.tmp rfl | exact Res.atw hm rfl | exact Res.at hm rfl)) ?_) | (refine ret2 rfl rfl (by (first | exact Res.tmp rfl | exact Res.atw hm rfl | exact Res.at hm rfl)) (by (first | exact Res.tmp rfl | exact Res.atw hm rfl | exact Res.at hm rfl)) ?_) | (refine ret3 rfl rfl (by (first | exact Res.tmp rfl | exact Res.atw hm rfl | exact Res.at hm rfl)) (by (first | exact Res.tmp rfl | exact Res.atw hm rfl | exact Res.at hm rfl)) (by (first | exact Res.tmp rfl | exact Res.atw hm rfl | exact Res.at hm rfl)) ?_) | (refine ret4 rfl rfl (by (first | exact Res.tmp rfl | exact Res.atw hm rfl | exact Res.at hm rfl)) (by (first | exact Res.tmp rfl | exact Res.atw hm rfl | exact Res.at hm rfl)) (by (first | exact Res.tmp rfl | exact Res.atw hm rfl | exact Res.at hm rfl)) (by (first | exact Res.tmp rfl | exact Res.atw hm rfl | exact Res.at hm rfl)) ?_) | fail "ret")
    exact ⟨0, at9, sd, rfl, ⟨by omega, .inr rfl⟩, by omega, hsd, hm⟩
  · have hn0 : nn ≠ 0 := by omega
    by_cases h2 : nn > 200
    · go_enter Try.func63, Try.ntmps63
      repeat' (first | (go_at_call 96; refine mem_callNx (by first | exact HN.out _ at9 sd (by omega) hsd hm | exact HN.out _ (at9 + 1) _ (by omega) (by assumption) hm) ?_; clear hm; intro x9 sd9 w hx9 hsd9 hm; obtain ⟨hx90, hx91⟩ := hx9; (try simp only [])) | ((with_reducible refine gix ?_); first | refine mix rfl rfl rfl rfl ?_ | refine mixr rfl rfl rfl rfl ?_; (try simp only [Int.toNat_zero, Int.reduceToNat, Nat.reduceMul, Nat.zero_mul, Nat.one_mul, List.drop_succ_cons, List.drop_zero, List.take_succ_cons, List.take_zero])) | ((with_reducible refine gl ?_); first | refine ml hm rfl rfl rfl ?_ | refine mlw hm rfl rfl rfl ?_ | (refine mlr hm rfl rfl rfl ?_; try simp only [List.drop_succ_cons, List.drop_zero, List.take_succ_cons, List.take_zero])) | ((with_reducible refine gs ?_); (first | refine ms hm rfl rfl rfl rfl rfl ?_ | refine msw hm rfl rfl rfl rfl ?_ | refine msr hm rfl rfl rfl rfl ?_); clear hm; intro w hm; (try simp only [splice, List.set_cons_zero, List.set_cons_succ] at hm)) | ((with_reducible refine gb ?_); (first | refine mem_box hm rfl rfl rfl ?_ | refine mem_box1 hm rfl rfl rfl rfl ?_); clear hm; intro n w hm) | ((with_reducible refine ga ?_); refine mem_alloc hm rfl rfl ?_; clear hm; intro n w hm) | go_values | go_skip | go_guarded | go_step | go_upon | ((with_reducible refine bp ?_); go_back) | ((with_reducible refine up ?_); first | (simp only [Int.not_lt, Int.not_le] at *; go_simp) | (go_values <;> (try go_simp)) | (go_ite <;> go_prune <;> (try go_simp)) | (split <;> (first | (rename_i hx; exact (hx _ rfl).elim) | go_prune))))
      (try simp only [Exit.inBlock, Exit.then])
      (first | (refine ret1 rfl rfl (by (first | exact Res.tmp rfl | exact Res.atw hm rfl | exact Res.at hm rfl)) ?_) | (refine ret2 rfl rfl (by (first | exact Res.tmp rfl | exact Res.atw hm rfl | exact Res.at hm rfl)) (by (first | exact Res.tmp rfl | exact Res.atw hm rfl | exact Res.at hm rfl)) ?_) | (refine ret3 rfl rfl (by (first | exact Res.tmp rfl | exact Res.atw hm rfl | exact Res.at hm rfl)) (by (first | exact Res.tmp rfl | exact Res.atw hm rfl | exact Res.at hm rfl)) (by (first | exact Res.tmp rfl | exact Res.atw hm rfl | exact Res.at hm rfl)) ?_) | (refine ret4 rfl rfl (by (first | exact Res.tmp rfl | exact Res.atw hm rfl | exact Res.at hm rfl)) (by (first | exact Res.tmp rfl | exact Res.atw hm rfl | exact Res.at hm rfl)) (by (first | exact Res.tmp rfl | exact Res.atw hm rfl | exact Res.at hm rfl)) (by (first | exact Res.tmp rfl | exact Res.atw hm rfl | exact Res.at hm rfl)) ?_) | fail "ret")
      exact ⟨_, at9 + 2, sd9, rfl, ⟨Int.emod_nonneg _ hn0, .inl (Int.emod_lt_of_pos _ (by omega))⟩, by omega, hsd9, by rw [show ((at9 + 2 : Nat) : Int) = ((at9 + 1 : Nat) : Int) + 1 from by omega]; exact hm⟩
    · go_enter Try.func63, Try.ntmps63
      repeat' (first | (go_at_call 96; refine mem_callNx (by first | exact HN.out _ at9 sd (by omega) hsd hm | exact HN.out _ (at9 + 1) _ (by omega) (by assumption) hm) ?_; clear hm; intro x9 sd9 w hx9 hsd9 hm; obtain ⟨hx90, hx91⟩ := hx9; (try simp only [])) | ((with_reducible refine gix ?_); first | refine mix rfl rfl rfl rfl ?_ | refine mixr rfl rfl rfl rfl ?_; (try simp only [Int.toNat_zero, Int.reduceToNat, Nat.reduceMul, Nat.zero_mul, Nat.one_mul, List.drop_succ_cons, List.drop_zero, List.take_succ_cons, List.take_zero])) | ((with_reducible refine gl ?_); first | refine ml hm rfl rfl rfl ?_ | refine mlw hm rfl rfl rfl ?_ | (refine mlr hm rfl rfl rfl ?_; try simp only [List.drop_succ_cons, List.drop_zero, List.take_succ_cons, List.take_zero])) | ((with_reducible refine gs ?_); (first | refine ms hm rfl rfl rfl rfl rfl ?_ | refine msw hm rfl rfl rfl rfl ?_ | refine msr hm rfl rfl rfl rfl ?_); clear hm; intro w hm; (try simp only [splice, List.set_cons_zero, List.set_cons_succ] at hm)) | ((with_reducible refine gb ?_); (first | refine mem_box hm rfl rfl rfl ?_ | refine mem_box1 hm rfl rfl rfl rfl ?_); clear hm; intro n w hm) | ((with_reducible refine ga ?_); refine mem_alloc hm rfl rfl ?_; clear hm; intro n w hm) | go_values | go_skip | go_guarded | go_step | go_upon | ((with_reducible refine bp ?_); go_back) | ((with_reducible refine up ?_); first | (simp only [Int.not_lt, Int.not_le] at *; go_simp) | (go_values <;> (try go_simp)) | (go_ite <;> go_prune <;> (try go_simp)) | (split <;> (first | (rename_i hx; exact (hx _ rfl).elim) | go_prune))))
      (try simp only [Exit.inBlock, Exit.then])
      (first | (refine ret1 rfl rfl (by (first | exact Res.tmp rfl | exact Res.atw hm rfl | exact Res.at hm rfl)) ?_) | (refine ret2 rfl rfl (by (first | exact Res.tmp rfl | exact Res.atw hm rfl | exact Res.at hm rfl)) (by (first | exact Res.tmp rfl | exact Res.atw hm rfl | exact Res.at hm rfl)) ?_) | (refine ret3 rfl rfl (by (first | exact Res.tmp rfl | exact Res.atw hm rfl | exact Res.at hm rfl)) (by (first | exact Res.tmp rfl | exact Res.atw hm rfl | exact Res.at hm rfl)) (by (first | exact Res.tmp rfl | exact Res.atw hm rfl | exact Res.at hm rfl)) ?_) | (refine ret4 rfl rfl (by (first | exact Res.tmp rfl | exact Res.atw hm rfl | exact Res.at hm rfl)) (by (first | exact Res.tmp rfl | exact Res.atw hm rfl | exact Res.at hm rfl)) (by (first | exact Res.tmp rfl | exact Res.atw hm rfl | exact Res.at hm rfl)) (by (first | exact Res.tmp rfl | exact Res.atw hm rfl | exact Res.at hm rfl)) ?_) | fail "ret")
      exact ⟨_, at9 + 1, sd9, rfl, ⟨Int.emod_nonneg _ hn0, .inl (Int.emod_lt_of_pos _ (by omega))⟩, by omega, hsd9, by rw [show ((at9 + 1 : Nat) : Int) = (at9 : Int) + 1 from by omega]; exact hm⟩
section
variable {P : Program} {w0 w : World} {σ : List Blk}
/-- A call that moves the cursor on and returns something of a kind. -/
def Moves (P : Program) (f : FuncId) (args : Array Value) (w0 w : World) (σ : List Blk) (nc : Nat) (g : Option Addr) (len cap at9 d : Nat) (T : TypeId) (K : Value → Prop) : Prop :=
  Calls P f args w fun e w' => ∃ (v : Value) (at' : Nat) (sd' : Int), e = .returned v ∧ K v ∧ at' ≤ at9 + d ∧ (0 ≤ sd' ∧ sd' < 18446744073709551616) ∧ Mem w0 w' (⟨nc, [.slice g len cap, iv at', .int .u64 sd'], T⟩ :: σ)
theorem mem_callMv {f : FuncId} {args : Array Value} {R : Ending → World → Prop} {nc len cap at9 d : Nat} {g : Option Addr} {T : TypeId} {K : Value → Prop} (h : Moves P f args w0 w σ nc g len cap at9 d T K)
    (k : ∀ v at' sd' w', K v → at' ≤ at9 + d → (0 ≤ sd' ∧ sd' < 18446744073709551616) → Mem w0 w' (⟨nc, [.slice g len cap, iv at', .int .u64 sd'], T⟩ :: σ) → R (.returned v) w') : Calls P f args w R :=
  Calls.mono h fun e w' ⟨v, at', sd', he, hK, ha, hs, hm⟩ => by subst he; exact k v at' sd' w' hK ha hs hm
end
theorem spec_one {w0 w : World} {σ : List Blk} {nc cap : Nat} {g : Option Addr} {at9 : Nat} {sd : Int} {l : List Nat} (hl : l.length ≤ 70000) (hb : ∀ x ∈ l, x < 256) (hat : at9 ≤ 900000) (hsd : 0 ≤ sd ∧ sd < 18446744073709551616) (nn : Int) (hm : Mem w0 w (curB nc g l.length cap at9 sd :: σ)) [hA : OldCode w0 g l] :
    Moves Try.prog 64 #[.pointer (some ⟨nc, 0, none⟩), iv nn] w0 w σ nc g l.length cap at9 2 69 (fun v => ∃ q : Bool, v = .bool q) := by
  have hP := spec_pick (cap := cap) hl hb hat hsd nn hm
  unfold Moves
  unfold curB at *
  have HP := Lib.hid hP
  clear hP hb
  go_enter Try.func64, Try.ntmps64
  repeat' (first | (go_at_call 63; refine Calls.mono HP.out ?_; intro e w ⟨x9, at8, sd9, he, ⟨hx0, hx1⟩, ha8, hsd9, hm⟩; subst he; (try simp only [])) | ((with_reducible refine gix ?_); first | refine mix rfl rfl rfl rfl ?_ | refine mixr rfl rfl rfl rfl ?_; (try simp only [Int.toNat_zero, Int.reduceToNat, Nat.reduceMul, Nat.zero_mul, Nat.one_mul, List.drop_succ_cons, List.drop_zero, List.take_succ_cons, List.take_zero])) | ((with_reducible refine gl ?_); first | refine ml hm rfl rfl rfl ?_ | refine mlw hm rfl rfl rfl ?_ | (refine mlr hm rfl rfl rfl ?_; try simp only [List.drop_succ_cons, List.drop_zero, List.take_succ_cons, List.take_zero])) | ((with_reducible refine gs ?_); (first | refine ms hm rfl rfl rfl rfl rfl ?_ | refine msw hm rfl rfl rfl rfl ?_ | refine msr hm rfl rfl rfl rfl ?_); clear hm; intro w hm; (try simp only [splice, List.set_cons_zero, List.set_cons_succ] at hm)) | ((with_reducible refine gb ?_); (first | refine mem_box hm rfl rfl rfl ?_ | refine mem_box1 hm rfl rfl rfl rfl ?_); clear hm; intro n w hm) | ((with_reducible refine ga ?_); refine mem_alloc hm rfl rfl ?_; clear hm; intro n w hm) | go_values | go_skip | go_guarded | go_step | go_upon | ((with_reducible refine bp ?_); go_back) | ((with_reducible refine up ?_); first | (simp only [Int.not_lt, Int.not_le] at *; go_simp) | (go_values <;> (try go_simp)) | (go_ite <;> go_prune <;> (try go_simp)) | (split <;> (first | (rename_i hx; exact (hx _ rfl).elim) | go_prune))))
  (try simp only [Exit.inBlock, Exit.then])
  (first | (refine ret1 rfl rfl (by (first | exact Res.tmp rfl | exact Res.atw hm rfl | exact Res.at hm rfl)) ?_) | (refine ret2 rfl rfl (by (first | exact Res.tmp rfl | exact Res.atw hm rfl | exact Res.at hm rfl)) (by (first | exact Res.tmp rfl | exact Res.atw hm rfl | exact Res.at hm rfl)) ?_) | (refine ret3 rfl rfl (by (first | exact Res.tmp rfl | exact Res.atw hm rfl | exact Res.at hm rfl)) (by (first | exact Res.tmp rfl | exact Res.atw hm rfl | exact Res.at hm rfl)) (by (first | exact Res.tmp rfl | exact Res.atw hm rfl | exact Res.at hm rfl)) ?_) | (refine ret4 rfl rfl (by (first | exact Res.tmp rfl | exact Res.atw hm rfl | exact Res.at hm rfl)) (by (first | exact Res.tmp rfl | exact Res.atw hm rfl | exact Res.at hm rfl)) (by (first | exact Res.tmp rfl | exact Res.atw hm rfl | exact Res.at hm rfl)) (by (first | exact Res.tmp rfl | exact Res.atw hm rfl | exact Res.at hm rfl)) ?_) | fail "ret")
  exact ⟨_, at8, sd9, rfl, ⟨_, rfl⟩, ha8, hsd9, hm⟩
theorem spec_among {w0 w : World} {σ : List Blk} {nc cap g2 j2 cap2 : Nat} {g : Option Addr} {at9 : Nat} {sd : Int} {l : List Nat} {more2 : List Value} (hl : l.length ≤ 70000) (hb : ∀ x ∈ l, x < 256) (hat : at9 ≤ 900000) (hsd : 0 ≤ sd ∧ sd < 18446744073709551616) (xs : List (Int)) (hx0 : 0 < xs.length) (hx1 : xs.length ≤ 1000) (hm : Mem w0 w (curB nc g l.length cap at9 sd :: σ)) [hA : OldCode w0 g l] [hB : At σ g2 (xs.map (iv) ++ more2) 3 j2] :
    Moves Try.prog 74 #[.pointer (some ⟨nc, 0, none⟩), .slice (some ⟨g2, 0, none⟩) xs.length cap2] w0 w σ nc g l.length cap at9 2 69 (fun v => ∃ x ∈ xs, v = (iv) x) := by
  have hP := spec_pick (cap := cap) hl hb hat hsd (xs.length : Int) hm
  have hv := fun (k : Nat) (h : k < xs.length) => (show (xs.map (iv) ++ more2)[k]? = some ((iv) xs[k]) by rw [List.getElem?_append_left (by simpa using h), List.getElem?_map, List.getElem?_eq_getElem h]; rfl)
  have hcl : (xs.map (iv) ++ more2).length = xs.length + more2.length := by rw [List.length_append, List.length_map]
  unfold Moves
  unfold curB at *
  have HP := Lib.hid hP
  have HV := Lib.hid hv
  clear hP hb hv
  generalize xs.map (iv) ++ more2 = cs at *
  go_enter Try.func74, Try.ntmps74
  repeat' (first | (go_at_call 63; refine Calls.mono HP.out ?_; intro e w ⟨x9, at8, sd9, he, ⟨hx90, hx91⟩, ha8, hsd9, hm⟩; subst he; (try simp only []); obtain ⟨k, rfl⟩ := Int.eq_ofNat_of_zero_le hx90; have hk : k < xs.length := (by omega); have hvk := HV.out k hk) | ((with_reducible refine gix ?_); first | refine mix rfl rfl rfl rfl ?_ | refine mixr rfl rfl rfl rfl ?_; (try simp only [Int.toNat_zero, Int.reduceToNat, Nat.reduceMul, Nat.zero_mul, Nat.one_mul, List.drop_succ_cons, List.drop_zero, List.take_succ_cons, List.take_zero])) | ((with_reducible refine gl ?_); first | refine ml hm rfl rfl rfl ?_ | refine mlw hm rfl rfl rfl ?_ | (refine mlr hm rfl rfl rfl ?_; try simp only [List.drop_succ_cons, List.drop_zero, List.take_succ_cons, List.take_zero])) | ((with_reducible refine gs ?_); (first | refine ms hm rfl rfl rfl rfl rfl ?_ | refine msw hm rfl rfl rfl rfl ?_ | refine msr hm rfl rfl rfl rfl ?_); clear hm; intro w hm; (try simp only [splice, List.set_cons_zero, List.set_cons_succ] at hm)) | ((with_reducible refine gb ?_); (first | refine mem_box hm rfl rfl rfl ?_ | refine mem_box1 hm rfl rfl rfl rfl ?_); clear hm; intro n w hm) | ((with_reducible refine ga ?_); refine mem_alloc hm rfl rfl ?_; clear hm; intro n w hm) | go_values | go_skip | go_guarded | go_step | go_upon | ((with_reducible refine bp ?_); go_back) | ((with_reducible refine up ?_); first | (simp only [Int.not_lt, Int.not_le] at *; go_simp) | (go_values <;> (try go_simp)) | (go_ite <;> go_prune <;> (try go_simp)) | (split <;> (first | (rename_i hx; exact (hx _ rfl).elim) | go_prune))))
  (try simp only [Exit.inBlock, Exit.then])
  (first | (refine ret1 rfl rfl (by (first | exact Res.tmp rfl | exact Res.atw hm rfl | exact Res.at hm rfl)) ?_) | (refine ret2 rfl rfl (by (first | exact Res.tmp rfl | exact Res.atw hm rfl | exact Res.at hm rfl)) (by (first | exact Res.tmp rfl | exact Res.atw hm rfl | exact Res.at hm rfl)) ?_) | (refine ret3 rfl rfl (by (first | exact Res.tmp rfl | exact Res.atw hm rfl | exact Res.at hm rfl)) (by (first | exact Res.tmp rfl | exact Res.atw hm rfl | exact Res.at hm rfl)) (by (first | exact Res.tmp rfl | exact Res.atw hm rfl | exact Res.at hm rfl)) ?_) | (refine ret4 rfl rfl (by (first | exact Res.tmp rfl | exact Res.atw hm rfl | exact Res.at hm rfl)) (by (first | exact Res.tmp rfl | exact Res.atw hm rfl | exact Res.at hm rfl)) (by (first | exact Res.tmp rfl | exact Res.atw hm rfl | exact Res.at hm rfl)) (by (first | exact Res.tmp rfl | exact Res.atw hm rfl | exact Res.at hm rfl)) ?_) | fail "ret")
  exact ⟨_, at8, sd9, rfl, ⟨_, List.getElem_mem hk, rfl⟩, ha8, hsd9, hm⟩
end Go.Proofs.Ytlhchjjegaflhaa
