/-
  The law on PlaySeed: for every input it returns true, and each argument reads as it read before. No condition.
-/
import Derived.Test.YthcjokgjiknheaaPlayLaw
import Derived.Test.YthcjokgjiknheaaLists
set_option linter.unusedVariables false
set_option linter.unusedSimpArgs false
namespace Go.Proofs.Ythcjokgjiknheaa
open Go.ChangeShapes Go.WideShapes Go.ChangeAt Go.RowKit Slm
open Go.ChangeMaps (open_string shut_string)
theorem walk_FnExactPlaySeed (a0 : List Int) (l0 : a0.length = 16) (w0 : ∀ x ∈ a0, I64 x) (a1 : List Int) (l1 : a1.length = 4) (w1 : ∀ x ∈ a1, I64 x) (a2 : Int) (w2 : I64 a2) (a3 : Int) (w3 : I64 a3) (w : World) : Calls Try.prog 12 #[.agg (nums a0), .agg (nums a1), iv a2, iv a3] w fun e w' => e = .returned (.bool true) ∧ Below w.heap.size w w' := by
  cases hq : playQ a0 a1 a2 a3
  · exact playseed_no a0 a1 l0 l1 a2 a3 hq w
  · have hq' := hq
    simp only [playQ, Bool.and_eq_true] at hq'
    obtain ⟨s, rfl⟩ := Int.eq_ofNat_of_zero_le (inB_iff.1 hq'.2.2.1).1
    obtain ⟨n, rfl⟩ := Int.eq_ofNat_of_zero_le (inB_iff.1 hq'.2.2.2).1
    by_cases hY : (playK a0 a1 s n).1 = []
    · exact playseed_nil a0 a1 l0 l1 s n hq hY w
    · exact playseed_ok a0 a1 l0 l1 s n hq hY w
set_option maxRecDepth 100000 in
theorem lifted_FnExactPlaySeed (os : Os) (started : os.Started) (H : Type) (enc : TypeId × Value → H) :
    ReturnsInHanded {} Try.checked os 12 .any (Rows.fnExactPlaySeedSpec.pre6 enc Try.prog Try.f12 Rows.fnExactPlaySeedRow.domain false) (Rows.fnExactPlaySeedSpec.post enc Try.prog Try.f12 false true false false) := by
  refine returnsInHanded_of_change (C := Try.checked) own started (by kernel_rfl) Try.func12
    (ChangeSpec.witness6 (enc := enc) (C := Try.checked) false ⟨#[], #[.agg #[.int .i64 0, .int .i64 0, .int .i64 0, .int .i64 0, .int .i64 0, .int .i64 0, .int .i64 0, .int .i64 0, .int .i64 0, .int .i64 0, .int .i64 0, .int .i64 0, .int .i64 0, .int .i64 0, .int .i64 0, .int .i64 0], .agg #[.int .i64 0, .int .i64 0, .int .i64 0, .int .i64 0], .int .i64 0, .int .i64 0], []⟩ 8 (by kernel_rfl) (by kernel_rfl) (by kernel_rfl) (by kernel_rfl)) ?_
  intro W base args ds gs before hval0 hW hcnd _
  have hval : ∀ (j : Nat) t v, Try.f12.params[j]? = some t → args[j]? = some v → Value.okWide Try.prog W .any base t v := hval0
  have hW' := hW
  obtain ⟨p, q, hA0, hV, rfl, hfz, hnd⟩ := hW
  have hA : DataW.TrodAll enc Try.prog W 0 (fun _ => true) true Try.f12.params.toList args.toList ds p := hA0
  rw [Try.params12] at hA hval
  obtain ⟨v0, vs0, d0, ds0, p0, q0, hargs, rfl, rfl, h0, r0⟩ := trodAll_cons hA
  obtain ⟨v1, vs1, d1, ds1, p1, q1, rfl, rfl, rfl, h1, r1⟩ := trodAll_cons r0
  obtain ⟨v2, vs2, d2, ds2, p2, q2, rfl, rfl, rfl, h2, r2⟩ := trodAll_cons r1
  obtain ⟨v3, vs3, d3, ds3, p3, q3, rfl, rfl, rfl, h3, r3⟩ := trodAll_cons r2
  obtain ⟨rfl, rfl, rfl⟩ := trodAll_nil r3
  obtain rfl : args = #[v0, v1, v2, v3] := by cases args; simp_all
  obtain ⟨rfl, rfl⟩ := trodVars_none hV
  obtain ⟨a0, rfl, l0, w0⟩ := open_row (n := 16) Try.underlying3 (by kernel_rfl) (by kernel_rfl) (by kernel_rfl) (hval 0 25 v0 rfl rfl) h0
  obtain ⟨a1, rfl, l1, w1⟩ := open_row (n := 4) Try.underlying3 (by kernel_rfl) (by kernel_rfl) (by kernel_rfl) (hval 1 22 v1 rfl rfl) h1
  obtain ⟨a2, rfl, rfl, rfl, w2⟩ := open_int Try.underlying3 (hval 2 3 v2 rfl rfl) h2
  obtain ⟨a3, rfl, rfl, rfl, w3⟩ := open_int Try.underlying3 (hval 3 3 v3 rfl rfl) h3
  clear hA0 hval0
  refine (walk_FnExactPlaySeed a0 l0 w0 a1 l1 w1 a2 w2 a3 w3 W).mono fun e W' ⟨he, hb⟩ => ?_
  subst he
  exact ⟨_, rfl, post_law hW' rfl rfl rfl (by kernel_rfl) hb⟩
/-- FnExactPlaySeed: for every input the law returns true, and each argument reads as it read before. No condition. -/
theorem FnExactPlaySeed_holds : Rows.FnExactPlaySeedSaid :=
  OpenClaim.holds_of_wide 12 Try.f12 rfl rfl rfl rfl rfl rfl rfl ⟨rfl, rfl, rfl, rfl, rfl⟩ rfl rfl rfl rfl rfl (by kernel_rfl) Try.func12 (by kernel_rfl)
    (of_decide_eq_true (by kernel_rfl)) (by unfold Func.isWrapper; first | (rw [if_pos (by decide +kernel)]; kernel_rfl) | (rw [if_neg (by decide +kernel)]; exact ⟨rfl, rfl⟩))
    (fun os started H enc _ => lifted_FnExactPlaySeed os started H enc)
end Go.Proofs.Ythcjokgjiknheaa
