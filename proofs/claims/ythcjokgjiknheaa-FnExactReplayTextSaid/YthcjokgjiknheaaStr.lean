/-
  Walks of the functions on the bytes of a text. Texts are told by their lists of bytes.
-/
import Derived.Test.YthcjokgjiknheaaSmall
import Derived.Test.YthcjokgjiknheaaDel
import Derived.Lib.Bytealg
import Derived.Test.YthcjokgjiknheaaShelf
set_option linter.unusedVariables false
set_option linter.unusedSimpArgs false
namespace Go.Proofs.Ythcjokgjiknheaa
open Go.RowKit Slm
/-- A text by its bytes. -/
def bs (l : List UInt8) : ByteArray := ⟨l.toArray⟩
theorem bs_data (s : ByteArray) : bs s.data.toList = s := by cases s; simp [bs]
theorem bs_size (l : List UInt8) : (bs l).size = l.length := by simp [bs, ByteArray.size]
theorem bs_get (l : List UInt8) (k : Nat) (h : k < (bs l).size) (h2 : k < l.length) : (bs l)[k]'h = l[k] := by
  show (bs l).data[k]'_ = _
  simp [bs]
theorem bs_inj {a b : List UInt8} : bs a = bs b ↔ a = b := by
  constructor
  · intro h; have := congrArg (fun s : ByteArray => s.data.toList) h; simpa [bs] using this
  · rintro rfl; rfl
theorem bs_app (a b : List UInt8) : bs a ++ bs b = bs (a ++ b) := by
  apply ByteArray.ext
  simp [bs]
theorem bs_ext (l : List UInt8) (i j : Nat) : (bs l).extract i j = bs ((l.drop i).take (j - i)) := by
  apply ByteArray.ext
  simp [bs]
theorem bs_list (l : List UInt8) : (bs l).toList = l := ByteArray.toList_mk l
theorem u8_beq (a b : UInt8) : ((a.toNat : Int) == (b.toNat : Int)) = decide (a = b) := by
  rw [Bool.eq_iff_iff, beq_iff_eq, decide_eq_true_eq]
  constructor
  · intro h; exact UInt8.toNat_inj.1 (by omega)
  · rintro rfl; rfl
theorem u8_wrap (c : UInt8) : wrap64 (c.toNat : Int) = c.toNat := by
  have := UInt8.toNat_lt c
  unfold wrap64; omega
def okByte (c : UInt8) : Bool := inB c.toNat 32 126 && !(decide (c = 35))
theorem okByte_iff (c : UInt8) : okByte c = true ↔ (32 : Int) ≤ c.toNat ∧ (c.toNat : Int) ≤ 126 ∧ ¬ (c.toNat : Int) = 35 := by
  unfold okByte
  rw [← u8_beq]
  simp [inB, and_assoc]
/-- Bytes of 32..126 alone, none a '#', at most m of them. -/
def okB (l : List UInt8) (m : Nat) : Bool := l.all okByte && decide (l.length ≤ m)
theorem take_all_succ {l : List UInt8} {p : UInt8 → Bool} {k : Nat} (h : k < l.length) (hp : (l.take k).all p = true) : (l.take (k + 1)).all p = p l[k] := by
  rw [List.take_succ_eq_append_getElem h, List.all_append, hp]; simp
theorem all_ne {l : List UInt8} {p : UInt8 → Bool} {k : Nat} (h : k < l.length) (hp : p l[k] = false) : l.all p = false := by
  rw [List.all_eq_false]; exact ⟨l[k], List.getElem_mem h, by rw [hp]; decide⟩
theorem take_mem_succ {l : List UInt8} {c : UInt8} {k : Nat} (h : k < l.length) (hp : c ∉ l.take k) (hc : ¬ l[k] = c) : c ∉ l.take (k + 1) := by
  rw [List.take_succ_eq_append_getElem h, List.mem_append, List.mem_singleton]
  rintro (h | h)
  · exact hp h
  · exact hc h.symm
section
variable (l : List UInt8) (hl : l.length ≤ 9223372036854775807)
end
/-- Whether two texts are a record. -/
def cmdB (c : List UInt8) : Bool := !decide (c = []) && okB c 160 && !decide (64 ∈ c)
def recB (c r : List UInt8) : Bool := cmdB c && okB r 250
theorem index_mem (l : List UInt8) (c : UInt8) : 0 ≤ Lib.indexByte l c ↔ c ∈ l := by
  induction l with
  | nil => simp [Lib.indexByte]
  | cons b l ih =>
    have hg := Lib.indexByte_ge l c
    unfold Lib.indexByte
    by_cases hb : b = c
    · subst hb; simp
    · have h1 : (b == c) = false := by simpa using hb
      rw [h1, List.mem_cons, ← ih]
      simp only [Bool.false_eq_true, if_false]
      have h2 : ¬ c = b := fun e => hb e.symm
      by_cases h3 : Lib.indexByte l c = -1
      · rw [h3]; simp [h2]
      · have h4 : (Lib.indexByte l c == -1) = false := by simpa using h3
        rw [h4]
        simp only [Bool.false_eq_true, if_false, h2, false_or]
        omega
theorem bs_empty (c : List UInt8) : (bs c).toList.isEmpty = decide (c = []) := by
  rw [bs_list]; cases c <;> rfl
/-- What is left of so many bytes, or -1. -/
def szRec (c r : List UInt8) (n : Int) : Int := if n - c.length < 0 then -1 else if n - c.length - r.length < 0 then -1 else n - c.length - r.length
theorem szRec_small {c r : List UInt8} {n : Int} (h0 : 0 ≤ n) (h : ¬ szRec c r n < 0) : (c.length : Int) ≤ n ∧ (r.length : Int) ≤ n ∧ szRec c r n ≤ n := by
  unfold szRec at h ⊢
  split at h
  · simp at h
  · rename_i h1
    split at h
    · simp at h
    · rename_i h2
      rw [if_neg h1, if_neg h2]
      omega
section
variable {H : Type} {enc : TypeId × Value → H} {P : Program} {w : World} {base : Nat} {spare : Nat → Bool} {held : Bool}
/-- A record as it is handed over. -/
theorem open_rec {t ts : TypeId} {cs : List Value} (hr : leafs P 6 t = [ts, ts]) (hs : P.underlying ts = some .string) (h : LeafAt enc P w base spare held (leafs P 6 t) cs) :
    ∃ c r : List UInt8, cs = [.string (bs c), .string (bs r)] ∧ c.length ≤ maxLen ∧ r.length ≤ maxLen := by
  rw [hr] at h
  obtain ⟨hl, h⟩ := h
  match cs, hl, h with
  | [x, y], _, h =>
    obtain ⟨v0, f0, y0, e0, t0⟩ := h 0 ts rfl
    obtain ⟨v1, f1, y1, e1, t1⟩ := h 1 ts rfl
    obtain ⟨s0, q0, _, z0⟩ := DataW.trod_string hs t0
    obtain ⟨s1, q1, _, z1⟩ := DataW.trod_string hs t1
    simp only [List.getElem?_cons_zero, List.getElem?_cons_succ, Option.some.injEq, List.cons.injEq, and_true] at e0 e1 q0 q1
    subst e0 e1 q0 q1
    refine ⟨s0.data.toList, s1.data.toList, by rw [bs_data, bs_data], ?_, ?_⟩
    · exact Nat.le_trans (Nat.le_of_eq (show s0.data.toList.length = s0.size from rfl)) z0
    · exact Nat.le_trans (Nat.le_of_eq (show s1.data.toList.length = s1.size from rfl)) z1
end
end Go.Proofs.Ythcjokgjiknheaa
