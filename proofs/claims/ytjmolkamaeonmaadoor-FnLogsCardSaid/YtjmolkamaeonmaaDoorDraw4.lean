/-
  AppendRecord and SyncLog, told loosely (for the draws of logs).
-/
import Derived.Test.YtjmolkamaeonmaaDoorDraw3
import Derived.Test.YtjmolkamaeonmaaDoorLog2
set_option linter.unusedVariables false
set_option linter.unusedSimpArgs false
namespace Go.Proofs.YtjmolkamaeonmaaDoor
open Go.RowKit Slm
def IsLog (M : Nat) (v : Value) : Prop := ∃ (d p : List UInt8) (nn : Int), v = logV d p nn ∧ d.length + p.length ≤ M ∧ 0 ≤ nn ∧ nn ≤ 60
def IsRec (v : Value) : Prop := ∃ c r : List UInt8, v = .agg #[.string (bs c), .string (bs r)] ∧ c.length ≤ 20 ∧ r.length ≤ 20
theorem spec_AppendRecordW {M : Nat} (hM : M ≤ 1000000) {v u : Value} (hv : IsLog M v) (hu : IsRec u) (w : World) (hE : Env w) : Calls Tryd.prog 27 #[v, u] w fun e w' => ∃ (v' : Value) (k : Int), e = .returned (.tuple #[v', iv k]) ∧ IsLog (M + 1000) v' ∧ Below w.heap.size w w' := by
  obtain ⟨d, p, nn, rfl, hl, h0, h1⟩ := hv
  obtain ⟨c, r, rfl, hc, hr⟩ := hu
  refine Calls.mono (spec_AppendRecord d p nn (by omega) (by omega) c r (by omega) (by omega) w hE) ?_
  rintro e w' ⟨rfl, hb⟩
  unfold appV
  split
  · split
    · exact ⟨_, _, rfl, ⟨d, p, nn, rfl, by omega, h0, h1⟩, hb⟩
    · have := lineL_len (k := nn.toNat) (by omega) (c := c) (r := r) (by omega) (by omega)
      exact ⟨_, _, rfl, ⟨_, _, _, rfl, by rw [List.length_append]; omega, by omega, by omega⟩, hb⟩
  · exact ⟨_, _, rfl, ⟨d, p, nn, rfl, by omega, h0, h1⟩, hb⟩
theorem spec_SyncLogW {M : Nat} (hM : M ≤ 1000000) {v : Value} (hv : IsLog M v) (w : World) (hE : Env w) : Calls Tryd.prog 25 #[v] w fun e w' => ∃ (v' : Value) (b : Bool), e = .returned (.tuple #[v', .bool b]) ∧ IsLog M v' ∧ Below w.heap.size w w' := by
  obtain ⟨d, p, nn, rfl, hl, h0, h1⟩ := hv
  refine Calls.mono (spec_SyncLog d p nn (by omega) (by omega) w hE) ?_
  rintro e w' ⟨rfl, hb⟩
  split
  · exact ⟨_, _, rfl, ⟨_, _, _, rfl, by rw [List.length_append]; simpa using hl, h0, h1⟩, hb⟩
  · exact ⟨_, _, rfl, ⟨_, _, _, rfl, by simp, by omega, by omega⟩, hb⟩
end Go.Proofs.YtjmolkamaeonmaaDoor
