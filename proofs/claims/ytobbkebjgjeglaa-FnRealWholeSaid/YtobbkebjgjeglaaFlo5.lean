/-
  math.Trunc AT WHAT IS NO NUMBER; SIXTEEN-BIT WRAPS. No program in this text.
-/
import Derived.Test.YtobbkebjgjeglaaFlo4
import GoSem.Extern.MathFloor
namespace Fl
open Go

theorem trunc_body {P : Program} (x : Nat) (w : World) : (Extern.MathFloor.toIntegral "math.archTrunc" .zero #[.float .f64 x]).run P w = Sem.run P (match FloatKind.f64.decode x with
    | .nan s t =>
      if FloatKind.f64.format.quiet t = t then pure (.float .f64 x) else do
      let kept ← choose (.extern "math.Floor,Ceil,Trunc,RoundToEven.signallingNaN kept" 2)
      pure (.float .f64 (if kept == 1 then x else FloatKind.f64.encode (.nan s (FloatKind.f64.format.quiet t))))
    | d => pure (.float .f64 (FloatKind.f64.encode (d.integral .zero)))) w := rfl
theorem trunc_ext {P : Program} {x : Nat} (h : ¬ isNaN x) (w : World) : (Extern.MathFloor.toIntegral "math.archTrunc" .zero #[.float .f64 x]).run P w = .ok (.float .f64 (truncBits x)) w := by
  unfold isNaN at h
  rcases Nat.eq_or_lt_of_le (show rung x ≤ 9218868437227405312 by omega) with h1 | h1
  · have e : FloatKind.f64.decode x = .infinity (neg x) := read_inf h1
    rw [trunc_body]; simp [truncBits, e]
  · obtain ⟨m, p, e, _, _⟩ := read_fin h1
    have e' : FloatKind.f64.decode x = .number (neg x) m p := e
    rw [trunc_body]; simp [truncBits, e']

theorem trunc_ext_nan {P : Program} {x : Nat} (h : isNaN x) (w : World) :
    ∃ b w', isNaN b ∧ (w' = w ∨ w' = w.drew) ∧ (Extern.MathFloor.toIntegral "math.archTrunc" .zero #[.float .f64 x]).run P w = .ok (.float .f64 b) w' := by
  have e : FloatKind.f64.decode x = .nan (neg x) (rung x - 9218868437227405312) := read_nan h
  have hq : isNaN (FloatKind.f64.encode (.nan (neg x) (FloatKind.f64.format.quiet (rung x - 9218868437227405312)))) := by
    show isNaN (Ieee.double.word (neg x) (Ieee.double.infRung + Ieee.double.quiet (rung x - 9218868437227405312) % Ieee.double.binade))
    rw [word_eq, D_inf, D_binade]
    have hlt : rung x < 9223372036854775808 := rung_lt x
    unfold isNaN at h
    generalize ht : rung x - 9218868437227405312 = t
    have hq0 : 0 < Ieee.double.quiet t % 4503599627370496 := by
      show 0 < (t ||| 2 ^ 51) % 4503599627370496
      have hb : (t ||| 2 ^ 51).testBit 51 = true := by rw [Nat.testBit_or, Nat.testBit_two_pow_self, Bool.or_true]
      rcases Nat.eq_zero_or_pos ((t ||| 2 ^ 51) % 4503599627370496) with h0 | h0
      · exfalso
        have h3 : ((t ||| 2 ^ 51) % 2 ^ 52).testBit 51 = true := by rw [Nat.testBit_mod_two_pow]; simp [hb]
        rw [show (2 : Nat) ^ 52 = 4503599627370496 by decide, h0] at h3
        simp at h3
      · exact h0
    have hqm : Ieee.double.quiet t % 4503599627370496 < 4503599627370496 := Nat.mod_lt _ (by decide)
    unfold isNaN
    rw [rung_word _ (by omega)]
    omega
  by_cases hs : FloatKind.f64.format.quiet (rung x - 9218868437227405312) = rung x - 9218868437227405312
  · exact ⟨x, w, h, .inl rfl, by rw [trunc_body]; simp [e, hs]⟩
  · refine ⟨if ((Question.extern "math.Floor,Ceil,Trunc,RoundToEven.signallingNaN kept" 2).cut (w.tape w.drawn (Question.extern "math.Floor,Ceil,Trunc,RoundToEven.signallingNaN kept" 2)) == 1) = true then x else FloatKind.f64.encode (.nan (neg x) (FloatKind.f64.format.quiet (rung x - 9218868437227405312))), w.drew, ?_, .inr rfl, by rw [trunc_body]; simp [e, hs, Question.forced]⟩
    split
    · exact h
    · exact hq

theorem wrap_i16 (n : Int) : IntKind.i16.wrap n = (n + 32768) % 65536 - 32768 := by
  simp [IntKind.wrap, IntKind.signed, IntKind.bits]
  omega

theorem wrap16_hi (n : Int) : IntKind.i16.wrap (n.tmod 65536 + 65536) = IntKind.i16.wrap n := by
  have := Int.tmod_add_mul_tdiv n 65536
  rw [wrap_i16, wrap_i16]
  omega
theorem wrap16_lo (n : Int) : IntKind.i16.wrap (n.tmod 65536 - 65536) = IntKind.i16.wrap n := by
  have := Int.tmod_add_mul_tdiv n 65536
  rw [wrap_i16, wrap_i16]
  omega
theorem wrap16_mid (n : Int) : IntKind.i16.wrap (n.tmod 65536) = IntKind.i16.wrap n := by
  have := Int.tmod_add_mul_tdiv n 65536
  rw [wrap_i16, wrap_i16]
  omega
theorem tmod_bd (n : Int) : -65536 < n.tmod 65536 ∧ n.tmod 65536 < 65536 := by
  have h1 := Int.tmod_lt_of_pos n (b := 65536) (by omega)
  have h2 := Int.tmod_lt_of_pos (-n) (b := 65536) (by omega)
  rw [Int.neg_tmod] at h2
  omega
end Fl
