/-
  A number's mix, as a plain reckoning: two numbers never have one mix.
  Conditions: numbers below 2^64.
-/
import Derived.WalkKit
namespace Go.Proofs.YtemepnpfhoidhaaDoor
namespace MixCore
set_option linter.unusedVariables false
set_option linter.unusedSimpArgs false
def xs (k x : Nat) : Nat := x ^^^ (x >>> k)
theorem shr_lt {x : Nat} (k : Nat) (h : x < 18446744073709551616) : x >>> k < 18446744073709551616 := by
  rw [Nat.shiftRight_eq_div_pow]
  exact Nat.lt_of_le_of_lt (Nat.div_le_self _ _) h
theorem b64 : (18446744073709551616 : Nat) = 2 ^ 64 := by decide
theorem xs_lt {x : Nat} (k : Nat) (h : x < 18446744073709551616) : xs k x < 18446744073709551616 := by
  have h2 := shr_lt k h
  rw [b64] at h h2 ⊢
  exact Nat.xor_lt_two_pow h h2
theorem xs_back {x k : Nat} (hk : 64 ≤ k + k + k) (h : x < 18446744073709551616) : xs k x ^^^ (xs k x >>> k) ^^^ (xs k x >>> k >>> k) = x := by
  have h0 : x >>> k >>> k >>> k = 0 := by
    rw [← Nat.shiftRight_add, ← Nat.shiftRight_add, Nat.shiftRight_eq_div_pow]
    refine Nat.div_eq_of_lt (Nat.lt_of_lt_of_le h ?_)
    rw [b64]
    exact Nat.pow_le_pow_right (by decide) (by omega)
  unfold xs
  rw [Nat.shiftRight_xor_distrib, Nat.shiftRight_xor_distrib, h0]
  generalize x >>> k >>> k = c
  generalize x >>> k = b
  rw [Nat.xor_zero]
  rw [Nat.xor_assoc x b, ← Nat.xor_assoc b b c, Nat.xor_self, Nat.zero_xor, Nat.xor_assoc, Nat.xor_self, Nat.xor_zero]
theorem xs_inj {a b k : Nat} (hk : 64 ≤ k + k + k) (ha : a < 18446744073709551616) (hb : b < 18446744073709551616) (h : xs k a = xs k b) : a = b := by
  rw [← xs_back hk ha, ← xs_back hk hb, h]
theorem mul_inj {a b m n : Nat} (hm : m * n % 18446744073709551616 = 1) (ha : a < 18446744073709551616) (hb : b < 18446744073709551616) (h : a * m % 18446744073709551616 = b * m % 18446744073709551616) : a = b := by
  have key : ∀ x : Nat, x < 18446744073709551616 → (x * m % 18446744073709551616) * n % 18446744073709551616 = x := fun x hx => by
    rw [Nat.mod_mul_mod, Nat.mul_assoc, Nat.mul_mod, hm, Nat.mul_one, Nat.mod_mod, Nat.mod_eq_of_lt hx]
  rw [← key a ha, ← key b hb, h]
def mix (n : Nat) : Nat := xs 31 (xs 27 (xs 30 ((n + 11400714819323198485) % 18446744073709551616) * 13787848793156543929 % 18446744073709551616) * 10723151780598845931 % 18446744073709551616)
theorem mix_inj {a b : Nat} (ha : a < 18446744073709551616) (hb : b < 18446744073709551616) (h : mix a = mix b) : a = b := by
  unfold mix at h
  have l1 : ∀ x : Nat, x % 18446744073709551616 < 18446744073709551616 := fun x => Nat.mod_lt _ (by decide)
  have h1 := xs_inj (k := 31) (by decide) (l1 _) (l1 _) h
  have h2 := mul_inj (n := 3573116690164977347) (by decide) (xs_lt 27 (l1 _)) (xs_lt 27 (l1 _)) h1
  have h3 := xs_inj (k := 27) (by decide) (l1 _) (l1 _) h2
  have h4 := mul_inj (n := 10871156337175269513) (by decide) (xs_lt 30 (l1 _)) (xs_lt 30 (l1 _)) h3
  have h5 := xs_inj (k := 30) (by decide) (l1 _) (l1 _) h4
  clear h h1 h2 h3 h4 l1
  omega
end MixCore
end Go.Proofs.YtemepnpfhoidhaaDoor
