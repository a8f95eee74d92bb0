import Derived.Test.YtbcmckfceeakhaaGLx4
import Derived.Test.YtbcmckfceeakhaaM2
import Derived.Test.YtbcmckfceeakhaaGLx6
import Derived.Test.YtbcmckfceeakhaaGLx7
import Derived.Test.YtbcmckfceeakhaaM3
import Derived.Test.YtbcmckfceeakhaaGLx8
import Derived.Test.YtbcmckfceeakhaaM4
import Derived.Test.YtbcmckfceeakhaaM5
import Derived.Test.YtbcmckfceeakhaaGLx2
section
set_option linter.unusedVariables false
set_option linter.unusedSimpArgs false
namespace Go.Proofs.Ytbcmckfceeakhaa.Gv
open Go.RowKit Go.Proofs.YtbcmckfceeakhaaW.PrintWords Go.Proofs.YtbcmckfceeakhaaW.PrintLast Go.Proofs.Ytbcmckfceeakhaa.GL

set_option linter.unusedSimpArgs false
/-- The reference's shapes. -/
def shR (op : Int) : ByteArray :=
  if op < 1 ∨ 43 < op then ⟨#[]⟩ else if op ≤ 23 then ⟨#[100, 97, 98, 45]⟩ else if op ≤ 30 then ⟨#[100, 97, 45, 45]⟩ else if op = 31 then ⟨#[100, 97, 45, 115]⟩
  else if op = 33 ∨ op = 40 then ⟨#[100, 45, 45, 117]⟩ else if op < 39 then ⟨#[100, 97, 45, 117]⟩ else if op = 39 then ⟨#[45, 45, 45, 117]⟩ else if op = 41 then ⟨#[45, 97, 45, 45]⟩ else ⟨#[45, 45, 45, 45]⟩
theorem classes (op : Int) : (op < 1 ∨ 43 < op) ∨ (1 ≤ op ∧ op ≤ 23) ∨ (24 ≤ op ∧ op ≤ 30) ∨ op = 31 ∨ op = 32 ∨ op = 33 ∨ (34 ≤ op ∧ op ≤ 38) ∨ op = 39 ∨ op = 40 ∨ op = 41 ∨ op = 42 ∨ op = 43 := by omega
theorem shape_ref (k : Nat) (op : Int) : astrolaberef06_Shape.f (k + 4) op = some (shR op) := by
  simp only [astrolaberef06_Shape.f, astrolaberef06_Shape.j0, astrolaberef06_Shape.j1, astrolaberef06_Shape.j2, astrolaberef06_Shape.j3, decide_eq_true_eq, beq_iff_eq, Bool.false_eq_true, if_false]
  unfold shR
  rcases classes op with h | h | h | h | h | h | h | h | h | h | h | h
  · rcases h with h | h <;> simp (disch := omega) only [if_pos, if_neg]
  · simp (disch := omega) only [if_pos, if_neg]
  · simp (disch := omega) only [if_pos, if_neg]
  · simp (disch := omega) only [if_pos, if_neg]
  · simp (disch := omega) only [if_pos, if_neg]
  · simp (disch := omega) only [if_pos, if_neg]
  · by_cases h34 : op = 34
    · simp (disch := omega) only [if_pos, if_neg]
    · by_cases h35 : op = 35
      · simp (disch := omega) only [if_pos, if_neg]
      · by_cases h36 : op = 36
        · simp (disch := omega) only [if_pos, if_neg]
        · by_cases h37 : op = 37
          · simp (disch := omega) only [if_pos, if_neg]
          · simp (disch := omega) only [if_pos, if_neg]
  · simp (disch := omega) only [if_pos, if_neg]
  · simp (disch := omega) only [if_pos, if_neg]
  · simp (disch := omega) only [if_pos, if_neg]
  · simp (disch := omega) only [if_pos, if_neg]
  · simp (disch := omega) only [if_pos, if_neg]
theorem decode_ref (k : Nat) (x : Int) (h0 : 0 ≤ x) (hx : x < 4294967296) : astrolaberef13_Decode.f (k + 8) x = some (decP x) := by
  have w0 : wrap64 x = x := by unfold wrap64; omega
  have d1 : Int.tdiv x 67108864 = x / 67108864 := Int.tdiv_eq_ediv_of_nonneg h0
  have d2 : Int.tdiv x 2097152 = x / 2097152 := Int.tdiv_eq_ediv_of_nonneg h0
  have d3 : Int.tdiv x 65536 = x / 65536 := Int.tdiv_eq_ediv_of_nonneg h0
  have m1 : Int.tmod x 65536 = x % 65536 := Int.tmod_eq_emod_of_nonneg h0
  have m2 : Int.tmod (x % 65536) 2048 = x % 65536 % 2048 := Int.tmod_eq_emod_of_nonneg (by omega)
  have d4 : Int.tdiv (x % 65536) 2048 = x % 65536 / 2048 := Int.tdiv_eq_ediv_of_nonneg (by omega)
  have w1 : wrap64 (x / 67108864) = x / 67108864 := by unfold wrap64; omega
  have w2 : wrap64 (x / 2097152) = x / 2097152 := by unfold wrap64; omega
  have w3 : wrap64 (x / 65536) = x / 65536 := by unfold wrap64; omega
  have w4 : wrap64 (x % 65536 / 2048) = x % 65536 / 2048 := by unfold wrap64; omega
  have m3 : Int.tmod (x / 2097152) 32 = x / 2097152 % 32 := Int.tmod_eq_emod_of_nonneg (by omega)
  have m4 : Int.tmod (x / 65536) 32 = x / 65536 % 32 := Int.tmod_eq_emod_of_nonneg (by omega)
  have w5 : wrap64 (x % 65536 - 65536) = x % 65536 - 65536 := by unfold wrap64; omega
  unfold astrolaberef13_Decode.f
  simp only [w0, d1, d2, d3, m1, m2, d4, w1, w2, w3, w4, m3, m4]
  rw [shape_ref (k + 4)]
  simp only [Option.bind_some]
  have b100 : ∀ a b c : UInt8, bt ⟨#[100, a, b, c]⟩ 0 = 100 := fun _ _ _ => rfl
  have hop : 0 ≤ x / 67108864 ∧ x / 67108864 < 64 := by omega
  by_cases c0 : x / 67108864 < 1 ∨ 43 < x / 67108864
  · have e : shR (x / 67108864) = ⟨#[]⟩ := by unfold shR; rw [if_pos c0]
    rw [e, if_pos (by rw [ByteArray.toList_eq])]
    unfold decP; rw [if_pos c0]
  · have ne : ∀ a b c d : UInt8, ¬ (⟨#[a, b, c, d]⟩ : ByteArray).toList = [] := fun a b c d => by rw [ByteArray.toList_eq]; simp
    have z0 : ∀ a b c d : UInt8, (0 < ((⟨#[a, b, c, d]⟩ : ByteArray).size : Int)) = True := fun a b c d => eq_true (by show (0 : Int) < 4; omega)
    have z1 : ∀ a b c d : UInt8, (1 < ((⟨#[a, b, c, d]⟩ : ByteArray).size : Int)) = True := fun a b c d => eq_true (by show (1 : Int) < 4; omega)
    have z2 : ∀ a b c d : UInt8, (2 < ((⟨#[a, b, c, d]⟩ : ByteArray).size : Int)) = True := fun a b c d => eq_true (by show (2 : Int) < 4; omega)
    have z3 : ∀ a b c d : UInt8, (3 < ((⟨#[a, b, c, d]⟩ : ByteArray).size : Int)) = True := fun a b c d => eq_true (by show (3 : Int) < 4; omega)
    have t0 : ∀ a b c d : UInt8, bt (⟨#[a, b, c, d]⟩ : ByteArray) 0 = (a.toNat : Int) := fun _ _ _ _ => rfl
    have t1 : ∀ a b c d : UInt8, bt (⟨#[a, b, c, d]⟩ : ByteArray) 1 = (b.toNat : Int) := fun _ _ _ _ => rfl
    have t2 : ∀ a b c d : UInt8, bt (⟨#[a, b, c, d]⟩ : ByteArray) 2 = (c.toNat : Int) := fun _ _ _ _ => rfl
    have t3 : ∀ a b c d : UInt8, bt (⟨#[a, b, c, d]⟩ : ByteArray) 3 = (d.toNat : Int) := fun _ _ _ _ => rfl
    have n45 : (((45 : UInt8).toNat : Nat) : Int) = 45 := rfl
    have n97 : (((97 : UInt8).toNat : Nat) : Int) = 97 := rfl
    have n98 : (((98 : UInt8).toNat : Nat) : Int) = 98 := rfl
    have n100 : (((100 : UInt8).toNat : Nat) : Int) = 100 := rfl
    have n115 : (((115 : UInt8).toNat : Nat) : Int) = 115 := rfl
    have n117 : (((117 : UInt8).toNat : Nat) : Int) = 117 := rfl
    obtain ⟨op, hop'⟩ : ∃ op, op = x / 67108864 := ⟨_, rfl⟩
    have q1 : x % 65536 % 2048 = x % 2048 := by omega
    have q2 : x % 65536 / 2048 = x / 2048 % 32 := by omega
    unfold decP bad3 fD fA fB fLo fS
    rw [← hop'] at c0 hop ⊢
    have hx67 : x % 67108864 = x / 2097152 % 32 * 2097152 + x / 65536 % 32 * 65536 + x % 65536 := by omega
    rw [if_neg c0, hx67]
    rw [q1, q2]
    have hr1 : 0 ≤ x / 2097152 % 32 := by omega
    have hr2 : 0 ≤ x / 65536 % 32 := by omega
    have hr3 : 0 ≤ x % 65536 := by omega
    clear hop' w0 d1 d2 d3 m1 m2 d4 w1 w2 w3 w4 m3 m4 q1 q2 hx67 h0 hx
    generalize x / 2097152 % 32 = D at *
    generalize x / 65536 % 32 = A at *
    generalize x / 2048 % 32 = B at *
    generalize x % 65536 = L at *
    generalize x % 2048 = M at *
    clear x
    unfold shR
    rcases classes op with h | h | h | h | h | h | h | h | h | h | h | h
    · omega
    · simp (disch := omega) only [if_pos, if_neg]
      simp only [ne, z0, z1, z2, z3, t0, t1, t2, t3, n45, n97, n98, n100, n115, n117, w5, astrolaberef13_Decode.j0, astrolaberef13_Decode.j1, astrolaberef13_Decode.j2, if_true, if_false, Bool.false_eq_true, reduceIte, Int.reduceEq, decide_eq_true_eq]
      by_cases h1 : M = 0
      · (try simp (disch := omega) only [if_pos, if_neg]) <;> (try simp only [*])
      · (try simp (disch := omega) only [if_pos, if_neg]) <;> (try simp only [*])
    · simp (disch := omega) only [if_pos, if_neg]
      simp only [ne, z0, z1, z2, z3, t0, t1, t2, t3, n45, n97, n98, n100, n115, n117, w5, astrolaberef13_Decode.j0, astrolaberef13_Decode.j1, astrolaberef13_Decode.j2, if_true, if_false, Bool.false_eq_true, reduceIte, Int.reduceEq, decide_eq_true_eq]
      by_cases h1 : L = 0
      · (try simp (disch := omega) only [if_pos, if_neg]) <;> (try simp only [*])
      · (try simp (disch := omega) only [if_pos, if_neg]) <;> (try simp only [*])
    · simp (disch := omega) only [if_pos, if_neg]
      simp only [ne, z0, z1, z2, z3, t0, t1, t2, t3, n45, n97, n98, n100, n115, n117, w5, astrolaberef13_Decode.j0, astrolaberef13_Decode.j1, astrolaberef13_Decode.j2, if_true, if_false, Bool.false_eq_true, reduceIte, Int.reduceEq, decide_eq_true_eq]
      by_cases h1 : L ≥ 32768
      · (try simp (disch := omega) only [if_pos, if_neg]) <;> (try simp only [*])
      · (try simp (disch := omega) only [if_pos, if_neg]) <;> (try simp only [*])
    · simp (disch := omega) only [if_pos, if_neg]
      simp only [ne, z0, z1, z2, z3, t0, t1, t2, t3, n45, n97, n98, n100, n115, n117, w5, astrolaberef13_Decode.j0, astrolaberef13_Decode.j1, astrolaberef13_Decode.j2, if_true, if_false, Bool.false_eq_true, reduceIte, Int.reduceEq, decide_eq_true_eq]
    · simp (disch := omega) only [if_pos, if_neg]
      simp only [ne, z0, z1, z2, z3, t0, t1, t2, t3, n45, n97, n98, n100, n115, n117, w5, astrolaberef13_Decode.j0, astrolaberef13_Decode.j1, astrolaberef13_Decode.j2, if_true, if_false, Bool.false_eq_true, reduceIte, Int.reduceEq, decide_eq_true_eq]
      by_cases h1 : A = 0
      · (try simp (disch := omega) only [if_pos, if_neg]) <;> (try simp only [*])
      · (try simp (disch := omega) only [if_pos, if_neg]) <;> (try simp only [*])
    · simp (disch := omega) only [if_pos, if_neg]
      simp only [ne, z0, z1, z2, z3, t0, t1, t2, t3, n45, n97, n98, n100, n115, n117, w5, astrolaberef13_Decode.j0, astrolaberef13_Decode.j1, astrolaberef13_Decode.j2, if_true, if_false, Bool.false_eq_true, reduceIte, Int.reduceEq, decide_eq_true_eq]
    · simp (disch := omega) only [if_pos, if_neg]
      simp only [ne, z0, z1, z2, z3, t0, t1, t2, t3, n45, n97, n98, n100, n115, n117, w5, astrolaberef13_Decode.j0, astrolaberef13_Decode.j1, astrolaberef13_Decode.j2, if_true, if_false, Bool.false_eq_true, reduceIte, Int.reduceEq, decide_eq_true_eq]
      by_cases h2 : D = 0
      · by_cases h1 : A = 0
        · (try simp (disch := omega) only [if_pos, if_neg]) <;> (try simp only [*])
        · (try simp (disch := omega) only [if_pos, if_neg]) <;> (try simp only [*])
      · by_cases h1 : A = 0
        · (try simp (disch := omega) only [if_pos, if_neg]) <;> (try simp only [*])
        · (try simp (disch := omega) only [if_pos, if_neg]) <;> (try simp only [*])
    · simp (disch := omega) only [if_pos, if_neg]
      simp only [ne, z0, z1, z2, z3, t0, t1, t2, t3, n45, n97, n98, n100, n115, n117, w5, astrolaberef13_Decode.j0, astrolaberef13_Decode.j1, astrolaberef13_Decode.j2, if_true, if_false, Bool.false_eq_true, reduceIte, Int.reduceEq, decide_eq_true_eq]
      by_cases h1 : A = 0
      · (try simp (disch := omega) only [if_pos, if_neg]) <;> (try simp only [*])
      · (try simp (disch := omega) only [if_pos, if_neg]) <;> (try simp only [*])
    · simp (disch := omega) only [if_pos, if_neg]
      simp only [ne, z0, z1, z2, z3, t0, t1, t2, t3, n45, n97, n98, n100, n115, n117, w5, astrolaberef13_Decode.j0, astrolaberef13_Decode.j1, astrolaberef13_Decode.j2, if_true, if_false, Bool.false_eq_true, reduceIte, Int.reduceEq, decide_eq_true_eq]
      by_cases h2 : D = 0
      · by_cases h1 : L = 0
        · (try simp (disch := omega) only [if_pos, if_neg]) <;> (try simp only [*])
        · (try simp (disch := omega) only [if_pos, if_neg]) <;> (try simp only [*])
      · by_cases h1 : L = 0
        · (try simp (disch := omega) only [if_pos, if_neg]) <;> (try simp only [*])
        · (try simp (disch := omega) only [if_pos, if_neg]) <;> (try simp only [*])
    · simp (disch := omega) only [if_pos, if_neg]
      simp only [ne, z0, z1, z2, z3, t0, t1, t2, t3, n45, n97, n98, n100, n115, n117, w5, astrolaberef13_Decode.j0, astrolaberef13_Decode.j1, astrolaberef13_Decode.j2, if_true, if_false, Bool.false_eq_true, reduceIte, Int.reduceEq, decide_eq_true_eq]
      by_cases h3 : D = 0
      · by_cases h2 : A = 0
        · by_cases h1 : L = 0
          · (try simp (disch := omega) only [if_pos, if_neg]) <;> (try simp only [*])
          · (try simp (disch := omega) only [if_pos, if_neg]) <;> (try simp only [*])
        · by_cases h1 : L = 0
          · (try simp (disch := omega) only [if_pos, if_neg]) <;> (try simp only [*])
          · (try simp (disch := omega) only [if_pos, if_neg]) <;> (try simp only [*])
      · by_cases h2 : A = 0
        · by_cases h1 : L = 0
          · (try simp (disch := omega) only [if_pos, if_neg]) <;> (try simp only [*])
          · (try simp (disch := omega) only [if_pos, if_neg]) <;> (try simp only [*])
        · by_cases h1 : L = 0
          · (try simp (disch := omega) only [if_pos, if_neg]) <;> (try simp only [*])
          · (try simp (disch := omega) only [if_pos, if_neg]) <;> (try simp only [*])
    · simp (disch := omega) only [if_pos, if_neg]
      simp only [ne, z0, z1, z2, z3, t0, t1, t2, t3, n45, n97, n98, n100, n115, n117, w5, astrolaberef13_Decode.j0, astrolaberef13_Decode.j1, astrolaberef13_Decode.j2, if_true, if_false, Bool.false_eq_true, reduceIte, Int.reduceEq, decide_eq_true_eq]
      by_cases h3 : D = 0
      · by_cases h2 : A = 0
        · by_cases h1 : L = 0
          · (try simp (disch := omega) only [if_pos, if_neg]) <;> (try simp only [*])
          · (try simp (disch := omega) only [if_pos, if_neg]) <;> (try simp only [*])
        · by_cases h1 : L = 0
          · (try simp (disch := omega) only [if_pos, if_neg]) <;> (try simp only [*])
          · (try simp (disch := omega) only [if_pos, if_neg]) <;> (try simp only [*])
      · by_cases h2 : A = 0
        · by_cases h1 : L = 0
          · (try simp (disch := omega) only [if_pos, if_neg]) <;> (try simp only [*])
          · (try simp (disch := omega) only [if_pos, if_neg]) <;> (try simp only [*])
        · by_cases h1 : L = 0
          · (try simp (disch := omega) only [if_pos, if_neg]) <;> (try simp only [*])
          · (try simp (disch := omega) only [if_pos, if_neg]) <;> (try simp only [*])
end Go.Proofs.Ytbcmckfceeakhaa.Gv
end

section
set_option linter.unusedVariables false
set_option linter.unusedSimpArgs false
namespace Go.Proofs.Ytbcmckfceeakhaa.Gv
open Go.RowKit Go.Proofs.YtbcmckfceeakhaaW.PrintWords Go.Proofs.YtbcmckfceeakhaaW.PrintLast Go.Proofs.Ytbcmckfceeakhaa.GL
set_option linter.unusedSimpArgs false

theorem put_nil (k : Nat) (x n : Int) : astrolaberef18_put.f (k + 8) [] x n = some (if 0 ≤ x ∧ x < n then [x] else []) := by
  have e0 : (([] : List Int).length : Int) = 0 := rfl
  have e1 : (0 : Int) < 0 ↔ False := by simp
  have e2 : (([] : List Int).length < 17592186044416) = True := by simp
  simp only [astrolaberef18_put.f, astrolaberef06_In.f, astrolaberef06_In.l0, astrolaberef18_put.j0, astrolaberef18_put.l0, astrolaberef18_put.j2, astrolaberef18_put.l1, e0, e1, e2, if_false, if_true, Option.bind_some, Bool.false_eq_true, List.nil_append]
  by_cases h1 : x < 0
  · simp (disch := omega) only [if_pos, if_neg]
  · by_cases h2 : x ≥ n
    · simp (disch := omega) only [if_pos, if_neg]
    · simp (disch := omega) only [if_pos, if_neg]
theorem put_one (k : Nat) (a x n : Int) : astrolaberef18_put.f (k + 8) [a] x n = some (if 0 ≤ x ∧ x < n ∧ x ≠ a then if a < x then [a, x] else [x, a] else [a]) := by
  have e0 : (([a] : List Int).length : Int) = 1 := rfl
  have e1 : (([] : List Int).length < 17592186044416) = True := by simp
  have e2 : (([a] : List Int).length < 17592186044416) = True := by simp
  have e3 : (([x] : List Int).length < 17592186044416) = True := by simp
  have e4 : rd [a] 0 = a := rfl
  have e5 : wrap64 (0 + 1) = 1 := by unfold wrap64; omega
  have l1 : (0 : Int) < 1 := by decide
  have l2 : ¬ (1 : Int) < 1 := by decide
  have l3 : (0 : Int) ≤ 0 := by decide
  simp only [astrolaberef18_put.f, astrolaberef06_In.f, astrolaberef06_In.l0, astrolaberef18_put.j0, astrolaberef18_put.l0, astrolaberef18_put.j2, astrolaberef18_put.l1, e0, e1, e2, e3, e4, e5, if_pos l1, if_neg l2, if_pos l3, if_false, if_true, Option.bind_some, Bool.false_eq_true, List.nil_append, List.cons_append]
  by_cases h1 : x < 0
  · simp (disch := omega) only [if_pos, if_neg]
  · by_cases h2 : x ≥ n
    · simp (disch := omega) only [if_pos, if_neg]
    · by_cases h3 : a = x
      · simp (disch := omega) only [if_pos, if_neg, Option.bind_some, if_true]
      · by_cases h4 : a < x
        · simp (disch := omega) only [if_pos, if_neg, Option.bind_some, if_false, Bool.false_eq_true]
        · simp (disch := omega) only [if_pos, if_neg, Option.bind_some, if_false, Bool.false_eq_true]
theorem decP_err (x : Int) : ((decP x).2.2.2.2.2 = 0 ∧ 1 ≤ (decP x).1 ∧ (decP x).1 ≤ 43) ∨ ((decP x).2.2.2.2.2 ≠ 0 ∧ (decP x).1 = 0) := by
  unfold decP bad3
  repeat' split
  all_goals simp
  all_goals omega
theorem next_ref (l : List Int) (a : Int) (hok : okW l) (k : Nat) : astrolaberef18_Next.f (k + 16) l a = some (nextL l a) := by
  have hl := hok.1
  unfold astrolaberef18_Next.f
  by_cases h1 : a < 0
  · rw [if_pos h1]
    unfold nextL
    rw [if_pos (Or.inl h1)]
    simp only [astrolaberef18_Next.j0, if_true]
  · rw [if_neg h1]
    by_cases h2 : (l.length : Int) ≤ a
    · unfold nextL
      rw [if_pos (Or.inr h2)]
      simp (disch := omega) only [astrolaberef18_Next.j0, decide_eq_true_eq, if_pos]
    · have hw := hok.2 _ (rd_mem (l := l) (pc := a) (by omega) (by omega))
      rw [nextL_eq (by omega) (by omega), dec_eq _ hw.1 hw.2, nexts_eq]
      have hg : 36 ≤ (decP (rd l a)).1 ∧ (decP (rd l a)).1 ≤ 40 → 0 ≤ (decP (rd l a)).2.2.2.2.1 ∧ (decP (rd l a)).2.2.2.2.1 < 65536 := by
        rw [← dec_eq _ hw.1 hw.2]; exact dec_goer _ hw.1 hw.2
      have he := decP_err (rd l a)
      have hwr : wrap64 (a + 1) = a + 1 := by unfold wrap64; omega
      simp (disch := omega) only [astrolaberef18_Next.j0, decide_eq_true_eq, if_pos, if_neg]
      rw [show k + 15 = (k + 7) + 8 from rfl, decode_ref (k + 7) _ hw.1 hw.2]
      simp only [Option.bind_some]
      generalize decP (rd l a) = t at *
      obtain ⟨op, d, x, y, n, e⟩ := t
      simp only at he hg ⊢
      have pn : ∀ (j : Nat) (z : Int), astrolaberef18_put.f (j + 8) [] z l.length = some (if 0 ≤ z ∧ z < l.length then [z] else []) := fun j z => put_nil j z _
      have p1 : ∀ (j : Nat) (b z : Int), astrolaberef18_put.f (j + 8) [b] z l.length = some (if 0 ≤ z ∧ z < l.length ∧ z ≠ b then if b < z then [b, z] else [z, b] else [b]) := fun j b z => put_one j b z _
      rcases he with ⟨he, ho⟩ | ⟨he, ho⟩
      · simp only [if_pos he, astrolaberef18_Next.j1, astrolaberef18_Next.j2, astrolaberef18_Next.j3, beq_iff_eq, if_true, hwr]
        by_cases c41 : op = 41
        · simp (disch := omega) only [if_pos, if_neg]
        · by_cases c43 : op = 43
          · simp (disch := omega) only [if_pos, if_neg]
          · by_cases c39 : op = 39 ∨ op = 40
            · have hg' := hg (by omega)
              have e1 : (if op = 0 ∨ op = 41 ∨ op = 43 then ([] : List Int) else if op = 39 ∨ op = 40 then nx1 l.length n else if op = 36 ∨ op = 37 ∨ op = 38 then nx2 l.length n (a + 1) else nx1 l.length (a + 1)) = if 0 ≤ n ∧ n < l.length then [n] else [] := by
                rw [if_neg (by omega), if_pos c39]; unfold nx1
                by_cases hc : n < l.length
                · rw [if_pos hc, if_pos ⟨hg'.1, hc⟩]
                · rw [if_neg hc, if_neg (fun h => hc h.2)]
              rw [e1]
              generalize hr : (if 0 ≤ n ∧ n < (l.length : Int) then [n] else []) = r at *
              have pn' : ∀ j : Nat, astrolaberef18_put.f (j + 8) [] n l.length = some r := fun j => (pn j n).trans (by rw [hr])
              clear pn p1 e1 hg he
              rcases c39 with rfl | rfl
              · simp (disch := omega) only [if_pos, if_neg, pn', Option.bind_some, if_true]
              · simp (disch := omega) only [if_pos, if_neg, pn', Option.bind_some, if_true]
            · by_cases c36 : op = 36 ∨ op = 37 ∨ op = 38
              · have hg' := hg (by omega)
                have e1 : (if op = 0 ∨ op = 41 ∨ op = 43 then ([] : List Int) else if op = 39 ∨ op = 40 then nx1 l.length n else if op = 36 ∨ op = 37 ∨ op = 38 then nx2 l.length n (a + 1) else nx1 l.length (a + 1)) = nx2 l.length n (a + 1) := by
                  rw [if_neg (by omega), if_neg (by omega), if_pos c36]
                rw [e1]
                have pp : ∀ j j' : Nat, ((astrolaberef18_put.f (j + 8) [] n l.length).bind fun t => (astrolaberef18_put.f (j' + 8) t (a + 1) l.length).bind fun u => some u) = some (nx2 l.length n (a + 1)) := by
                  intro j j'
                  rw [pn]
                  simp only [Option.bind_some]
                  unfold nx2
                  by_cases hc : n < l.length
                  · rw [if_pos ⟨hg'.1, hc⟩, p1, if_pos hc]
                    simp only [Option.bind_some]
                    by_cases hd : a + 1 < l.length
                    · rw [if_pos hd]
                      by_cases hn : n = a + 1
                      · rw [if_neg (fun h => h.2.2 hn.symm), if_pos hn]
                      · rw [if_pos ⟨by omega, hd, fun h => hn h.symm⟩, if_neg hn]
                        by_cases hlt : n < a + 1
                        · rw [if_pos hlt, if_pos (by omega)]
                        · rw [if_neg hlt, if_neg (by omega)]
                    · rw [if_neg (fun h => hd h.2.1), if_neg hd]
                  · rw [if_neg (fun h => hc h.2), pn, if_neg hc]
                    simp only [Option.bind_some]
                    by_cases hd : a + 1 < l.length
                    · rw [if_pos ⟨by omega, hd⟩, if_pos hd]
                    · rw [if_neg (fun h => hd h.2), if_neg hd]
                clear pn p1 e1 hg he
                generalize nx2 l.length n (a + 1) = r at *
                by_cases d36 : op = 36
                · simp (disch := omega) only [if_pos, if_neg, pp]
                · by_cases d37 : op = 37
                  · simp (disch := omega) only [if_pos, if_neg, pp]
                  · simp (disch := omega) only [if_pos, if_neg, pp]
              · have e1 : (if op = 0 ∨ op = 41 ∨ op = 43 then ([] : List Int) else if op = 39 ∨ op = 40 then nx1 l.length n else if op = 36 ∨ op = 37 ∨ op = 38 then nx2 l.length n (a + 1) else nx1 l.length (a + 1)) = if 0 ≤ a + 1 ∧ a + 1 < l.length then [a + 1] else [] := by
                  rw [if_neg (by omega), if_neg c39, if_neg c36]; unfold nx1
                  by_cases hc : a + 1 < l.length
                  · rw [if_pos hc, if_pos ⟨by omega, hc⟩]
                  · rw [if_neg hc, if_neg (fun h => hc h.2)]
                rw [e1]
                generalize hr : (if 0 ≤ a + 1 ∧ a + 1 < (l.length : Int) then [a + 1] else []) = r at *
                have pn' : ∀ j : Nat, astrolaberef18_put.f (j + 8) [] (a + 1) l.length = some r := fun j => (pn j (a + 1)).trans (by rw [hr])
                clear pn p1 e1 hg he
                simp (disch := omega) only [if_pos, if_neg, pn', Option.bind_some]
      · simp (disch := omega) only [if_neg he, if_pos, astrolaberef18_Next.j1, if_true]
end Go.Proofs.Ytbcmckfceeakhaa.Gv
end

section
set_option linter.unusedVariables false
set_option linter.unusedSimpArgs false
namespace Go.Proofs.Ytbcmckfceeakhaa.Gv
open Go.RowKit Go.Proofs.YtbcmckfceeakhaaW.PrintWords Go.Proofs.YtbcmckfceeakhaaW.PrintLast Go.Proofs.Ytbcmckfceeakhaa.GL

theorem ev_next (l : List Int) (a : Int) (hok : okW l) : Ev (fun k => astrolaberef18_Next.f k l a) (nextL l a) :=
  ⟨16, fun k hk => by obtain ⟨m, rfl⟩ : ∃ m, k = m + 16 := ⟨k - 16, by omega⟩; exact next_ref l a hok m⟩
def onB (s : List Bool) (q : Nat) : Prop := s.getD q false = true
def offs (s : List Bool) : Nat := s.count false
theorem onB_lt {s : List Bool} {q : Nat} (h : onB s q) : q < s.length := by
  unfold onB at h
  by_cases c : q < s.length
  · exact c
  · simp [List.getD_eq_getElem?_getD, List.getElem?_eq_none (Nat.le_of_not_lt c)] at h
theorem onB_set {s : List Bool} {p q : Nat} (hp : p < s.length) : onB (s.set p true) q ↔ onB s q ∨ q = p := by
  unfold onB
  simp only [List.getD_eq_getElem?_getD, List.getElem?_set]
  by_cases e : p = q
  · subst e; simp [hp]
  · rw [if_neg e]; simp [show ¬ q = p from fun h => e h.symm]
theorem offs_set {s : List Bool} {p : Nat} (hp : p < s.length) (h : ¬ onB s p) : offs (s.set p true) < offs s := by
  unfold offs onB at *
  have h' : s[p] = false := by
    simp only [List.getD_eq_getElem?_getD, List.getElem?_eq_getElem hp, Option.getD_some] at h
    exact Bool.eq_false_iff.2 h
  have hm : false ∈ s := h' ▸ List.getElem_mem hp
  have hc := List.count_pos_iff.2 hm
  rw [List.count_set hp]
  simp [h']
  omega
structure FI (l : List Int) (pc : Nat) (wo : Int) (s : List Bool) : Prop where
  len : s.length = l.length
  start : onB s pc
  sound : ∀ q, onB s q → AG.Rch (nxL l) (fun x => (x : Int) ≠ wo) pc q
theorem w64 {i : Int} (h0 : 0 ≤ i) (h : i ≤ 1000000) : wrap64 (i + 1) = i + 1 := by unfold wrap64; omega
theorem l2_run {l : List Int} (hok : okW l) {pc : Nat} {wo : Int} {p : Nat} (hp : p < l.length) (d : Nat) : ∀ (j : Nat) (s : List Bool) (ch : Bool), (nextL l p).length - j = d → j ≤ (nextL l p).length → FI l pc wo s → onB s p →
    ∃ s' ch', FI l pc wo s' ∧ (∀ q, onB s q → onB s' q) ∧ (∀ x ∈ (nextL l p).drop j, x ≠ wo → onB s' x.toNat) ∧ ((ch' = ch ∧ s' = s) ∨ (ch' = true ∧ offs s' < offs s)) ∧
      ∀ r, Ev (fun k => astrolaberef18_from.l1 k l wo s' ch' (wrap64 ((p : Int) + 1))) r → Ev (fun k => astrolaberef18_from.l2 k l wo s ch p (nextL l p) j) r := by
  induction d with
  | zero =>
    intro j s ch hd hj hF _
    refine ⟨s, ch, hF, fun _ h => h, fun x hx => ?_, .inl ⟨rfl, rfl⟩, fun r hr => ?_⟩
    · rw [List.drop_eq_nil_of_le (by omega)] at hx; cases hx
    · refine Ev.step (fun k => ?_) hr
      simp only [astrolaberef18_from.l2]
      rw [if_neg (by omega)]
  | succ d ih =>
    intro j s ch hd hj hF hsp
    have hjl : j < (nextL l p).length := by omega
    have hlen := nextL_len l p
    have e : rd (nextL l p) (j : Int) = (nextL l p)[j] := by
      show (nextL l p).getD ((j : Int).toNat) _ = _
      rw [Int.toNat_natCast]; simp [hjl]
    have hx := nextL_lt hok (List.getElem_mem hjl)
    have hw := w64 (i := (j : Int)) (by omega) (by omega)
    have hdr : (nextL l p).drop j = (nextL l p)[j] :: (nextL l p).drop (j + 1) := List.drop_eq_getElem_cons hjl
    have hmem : (nextL l p)[j] ∈ nextL l p := List.getElem_mem hjl
    generalize hy : (nextL l p)[j] = y at *
    have hread : rdOf false s y = s.getD y.toNat false := rfl
    by_cases hwo : y = wo
    · obtain ⟨s', ch', h1, h2, h3, h4, h5⟩ := ih (j + 1) s ch (by omega) (by omega) hF hsp
      refine ⟨s', ch', h1, h2, fun x hxm hne => ?_, h4, fun r hr => Ev.step (fun k => ?_) (h5 r hr)⟩
      · rw [hdr] at hxm
        rcases List.mem_cons.1 hxm with rfl | hxm
        · exact absurd hwo hne
        · exact h3 x hxm hne
      · simp only [astrolaberef18_from.l2]
        rw [if_pos (by omega), if_pos (by omega), e, if_pos hwo, hw]
        rfl
    · by_cases hon : onB s y.toNat
      · obtain ⟨s', ch', h1, h2, h3, h4, h5⟩ := ih (j + 1) s ch (by omega) (by omega) hF hsp
        refine ⟨s', ch', h1, h2, fun x hxm hne => ?_, h4, fun r hr => Ev.step (fun k => ?_) (h5 r hr)⟩
        · rw [hdr] at hxm
          rcases List.mem_cons.1 hxm with rfl | hxm
          · exact h2 _ hon
          · exact h3 x hxm hne
        · simp only [astrolaberef18_from.l2]
          rw [if_pos (by omega), if_pos (by omega), e, if_neg hwo, if_pos hx.1, if_pos (by rw [hF.len]; exact hx.2), hread, if_pos (show s.getD y.toNat false = true from hon), hw]
          rfl
      · have hlt : y.toNat < s.length := by rw [hF.len]; omega
        have hF' : FI l pc wo (s.set y.toNat true) := by
          refine ⟨by rw [List.length_set]; exact hF.len, (onB_set hlt).2 (.inl hF.start), fun q hq => ?_⟩
          rcases (onB_set hlt).1 hq with hq | rfl
          · exact hF.sound q hq
          · refine .step (hF.sound p hsp) ?_ (by omega)
            rw [nxL_eq hp]
            exact List.mem_map.2 ⟨y, hmem, rfl⟩
        obtain ⟨s', ch', h1, h2, h3, h4, h5⟩ := ih (j + 1) (s.set y.toNat true) true (by omega) (by omega) hF' ((onB_set hlt).2 (.inl hsp))
        have hoff := offs_set hlt hon
        refine ⟨s', ch', h1, fun q hq => h2 q ((onB_set hlt).2 (.inl hq)), fun x hxm hne => ?_, .inr ?_, fun r hr => Ev.step (fun k => ?_) (h5 r hr)⟩
        · rw [hdr] at hxm
          rcases List.mem_cons.1 hxm with rfl | hxm
          · exact h2 _ ((onB_set hlt).2 (.inr rfl))
          · exact h3 x hxm hne
        · rcases h4 with ⟨a, b⟩ | ⟨a, b⟩
          · exact ⟨a, b ▸ hoff⟩
          · exact ⟨a, by omega⟩
        · simp only [astrolaberef18_from.l2]
          rw [if_pos (by omega), if_pos (by omega), e, if_neg hwo, if_pos hx.1, if_pos (by rw [hF.len]; exact hx.2), hread, if_neg (show ¬ s.getD y.toNat false = true from hon), hw]
          rfl
theorem l1_run {l : List Int} (hok : okW l) {pc : Nat} {wo : Int} (d : Nat) : ∀ (p : Nat) (s : List Bool) (ch : Bool), l.length - p = d → p ≤ l.length → FI l pc wo s →
    ∃ s' ch', FI l pc wo s' ∧ (∀ q, onB s q → onB s' q) ∧ (∀ q, p ≤ q → onB s q → ∀ x ∈ nextL l q, x ≠ wo → onB s' x.toNat) ∧ ((ch' = ch ∧ s' = s) ∨ (ch' = true ∧ offs s' < offs s)) ∧
      ∀ r, Ev (fun k => astrolaberef18_from.l0 k l wo s' ch') r → Ev (fun k => astrolaberef18_from.l1 k l wo s ch p) r := by
  have hl := hok.1
  induction d with
  | zero =>
    intro p s ch hd hp hF
    refine ⟨s, ch, hF, fun _ h => h, fun q hq hs => ?_, .inl ⟨rfl, rfl⟩, fun r hr => ?_⟩
    · have := onB_lt hs; rw [hF.len] at this; omega
    · refine Ev.step (fun k => ?_) hr
      simp only [astrolaberef18_from.l1]
      rw [if_neg (by omega)]
  | succ d ih =>
    intro p s ch hd hp hF
    have hpl : p < l.length := by omega
    have hw := w64 (i := (p : Int)) (by omega) (by omega)
    have hread : rdOf false s (p : Int) = s.getD p false := by show s.getD ((p : Int).toNat) false = _; rw [Int.toNat_natCast]
    by_cases hon : onB s p
    · obtain ⟨s1, c1, a1, a2, a3, a4, a5⟩ := l2_run hok hpl _ 0 s ch rfl (Nat.zero_le _) hF hon
      obtain ⟨s2, c2, b1, b2, b3, b4, b5⟩ := ih (p + 1) s1 c1 (by omega) (by omega) a1
      refine ⟨s2, c2, b1, fun q hq => b2 q (a2 q hq), fun q hq hs x hx hne => ?_, ?_, fun r hr => ?_⟩
      · by_cases e : q = p
        · subst e; exact b2 _ (a3 x (by rw [List.drop_zero]; exact hx) hne)
        · exact b3 q (by omega) (a2 q hs) x hx hne
      · rcases a4 with ⟨x1, x2⟩ | ⟨x1, x2⟩ <;> rcases b4 with ⟨y1, y2⟩ | ⟨y1, y2⟩
        · exact .inl ⟨y1.trans x1, y2.trans x2⟩
        · exact .inr ⟨y1, by rw [x2] at y2; exact y2⟩
        · exact .inr ⟨y1.trans x1, by rw [y2]; exact x2⟩
        · exact .inr ⟨y1, by omega⟩
      · have h1 := a5 r (by rw [hw]; exact b5 r hr)
        refine Ev.step (f := fun k => (astrolaberef18_Next.f k l p).bind fun t => astrolaberef18_from.l2 k l wo s ch p t 0) (fun k => ?_) (Ev.bind (ev_next l p hok) h1)
        simp only [astrolaberef18_from.l1]
        rw [if_pos (by omega), if_pos (by omega), if_pos (by rw [hF.len]; omega), hread, if_pos (show s.getD p false = true from hon)]
    · obtain ⟨s2, c2, b1, b2, b3, b4, b5⟩ := ih (p + 1) s ch (by omega) (by omega) hF
      refine ⟨s2, c2, b1, b2, fun q hq hs x hx hne => ?_, b4, fun r hr => Ev.step (fun k => ?_) (b5 r hr)⟩
      · by_cases e : q = p
        · subst e; exact absurd hs hon
        · exact b3 q (by omega) hs x hx hne
      · simp only [astrolaberef18_from.l1]
        rw [if_pos (by omega), if_pos (by omega), if_pos (by rw [hF.len]; omega), hread, if_neg (show ¬ s.getD p false = true from hon), hw]
        rfl
theorem l0_run {l : List Int} (hok : okW l) {pc : Nat} {wo : Int} (d : Nat) : ∀ (s : List Bool), offs s = d → FI l pc wo s →
    ∃ s', FI l pc wo s' ∧ (∀ q, onB s' q → ∀ x ∈ nextL l q, x ≠ wo → onB s' x.toNat) ∧ Ev (fun k => astrolaberef18_from.l0 k l wo s true) s' := by
  induction d using Nat.strongRecOn with
  | ind d ih =>
    intro s hd hF
    obtain ⟨s1, c1, a1, a2, a3, a4, a5⟩ := l1_run hok _ 0 s false rfl (Nat.zero_le _) hF
    have one : ∀ r, Ev (fun k => astrolaberef18_from.l0 k l wo s1 c1) r → Ev (fun k => astrolaberef18_from.l0 k l wo s true) r := fun r hr => by
      refine Ev.step (fun k => ?_) (a5 r hr)
      simp only [astrolaberef18_from.l0, if_true]
      rfl
    rcases a4 with ⟨rfl, rfl⟩ | ⟨rfl, h⟩
    · refine ⟨s1, a1, fun q hq => a3 q (Nat.zero_le _) hq, one _ (Ev.step (f := fun _ => some s1) (fun k => ?_) (Ev.now _))⟩
      simp only [astrolaberef18_from.l0]
      rw [if_neg (by decide)]
    · obtain ⟨s2, b1, b2, b3⟩ := ih _ (by omega) s1 rfl a1
      exact ⟨s2, b1, b2, one _ b3⟩
open Classical in
/-- What can be come to from pc, shunning wo. -/
noncomputable def fromL (l : List Int) (pc wo : Int) : List Bool := (List.range l.length).map fun q => decide ((0 ≤ pc ∧ pc < l.length ∧ pc ≠ wo) ∧ AG.Rch (nxL l) (fun x => (x : Int) ≠ wo) pc.toNat q)
theorem fromL_on {l : List Int} {pc wo : Int} {q : Nat} (hq : q < l.length) : onB (fromL l pc wo) q ↔ (0 ≤ pc ∧ pc < l.length ∧ pc ≠ wo) ∧ AG.Rch (nxL l) (fun x => (x : Int) ≠ wo) pc.toNat q := by
  unfold onB fromL
  simp [List.getD_eq_getElem?_getD, hq]
theorem fromL_len (l : List Int) (pc wo : Int) : (fromL l pc wo).length = l.length := by unfold fromL; simp
theorem list_on {s t : List Bool} (hl : s.length = t.length) (h : ∀ q, q < s.length → (onB s q ↔ onB t q)) : s = t := by
  refine List.ext_getElem hl fun q h1 h2 => ?_
  have := h q h1
  unfold onB at this
  simp only [List.getD_eq_getElem?_getD, List.getElem?_eq_getElem h1, List.getElem?_eq_getElem h2, Option.getD_some] at this
  exact Bool.eq_iff_iff.2 this
theorem from_ref {l : List Int} (hok : okW l) (pc wo : Int) : Ev (fun k => astrolaberef18_from.f k l pc wo) (fromL l pc wo) := by
  have hl := hok.1
  have hrep : ∀ q, ¬ onB (List.replicate l.length false) q := fun q h => by
    unfold onB at h
    simp only [List.getD_eq_getElem?_getD, List.getElem?_replicate] at h
    split at h <;> simp at h
  by_cases hc : 0 ≤ pc ∧ pc < l.length ∧ pc ≠ wo
  · obtain ⟨h0, h1, h2⟩ := hc
    obtain ⟨p, rfl⟩ := Int.eq_ofNat_of_zero_le h0
    have hp : p < l.length := by omega
    have hlen : (List.replicate l.length false).length = l.length := List.length_replicate
    have hF : FI l p wo ((List.replicate l.length false).set p true) := by
      refine ⟨by simp, (onB_set (by omega)).2 (.inr rfl), fun q hq => ?_⟩
      rcases (onB_set (by omega)).1 hq with hq | rfl
      · exact absurd hq (hrep q)
      · exact .here h2
    obtain ⟨s', a1, a2, a3⟩ := l0_run hok _ _ rfl hF
    have es : s' = fromL l p wo := by
      refine list_on (by rw [a1.len, fromL_len]) fun q hq => ?_
      rw [a1.len] at hq
      rw [fromL_on hq, Int.toNat_natCast]
      refine ⟨fun h => ⟨⟨h0, h1, h2⟩, a1.sound q h⟩, fun h => ?_⟩
      refine AG.Rch.closed (S := onB s') h.2 a1.start fun x hx y hy hok' => ?_
      have hxl := onB_lt hx
      rw [a1.len] at hxl
      have := a2 x hx y ((nx_mem hok hxl).1 hy) hok'
      rwa [Int.toNat_natCast] at this
    rw [← es]
    refine Ev.congr (f := fun k => astrolaberef18_from.j0 k l p wo (List.replicate l.length false) false) (fun k => ?_) (Ev.step (f := fun k => astrolaberef18_from.l0 k l wo ((List.replicate l.length false).set p true) true) (fun k => ?_) a3)
    · unfold astrolaberef18_from.f
      rw [if_pos (by omega), if_pos (by omega)]
      simp only [Option.bind_some]
      rw [if_neg (by omega), if_neg (by omega), Int.toNat_natCast, beq_eq_false_iff_ne.2 h2]
    · simp only [astrolaberef18_from.j0]
      rw [if_neg (by decide), if_pos h0, if_pos (by rw [hlen]; exact h1), Int.toNat_natCast]
  · have es : fromL l pc wo = List.replicate l.length false := by
      refine list_on (by rw [fromL_len]; simp) fun q hq => ?_
      rw [fromL_len] at hq
      rw [fromL_on hq]
      exact ⟨fun h => absurd h.1 hc, fun h => absurd h (hrep q)⟩
    rw [es]
    refine Ev.congr (f := fun k => astrolaberef18_from.j0 k l pc wo (List.replicate l.length false) true) (fun k => ?_) (Ev.step (f := fun _ => some (List.replicate l.length false)) (fun k => ?_) (Ev.now _))
    · unfold astrolaberef18_from.f
      rw [if_pos (by omega), if_pos (by omega)]
      simp only [Option.bind_some, Int.toNat_natCast]
      by_cases h1 : pc < 0
      · rw [if_pos h1]
      · rw [if_neg h1]
        by_cases h2 : pc ≥ (l.length : Int)
        · rw [if_pos h2]
        · have h3 : pc = wo := by
            by_cases e : pc = wo
            · exact e
            · exact absurd ⟨by omega, by omega, e⟩ hc
          rw [if_neg h2, beq_iff_eq.2 h3]
    · simp only [astrolaberef18_from.j0, if_true]
end Go.Proofs.Ytbcmckfceeakhaa.Gv
end

section
set_option linter.unusedVariables false
set_option linter.unusedSimpArgs false
namespace Go.Proofs.Ytbcmckfceeakhaa.Gv
open Go.RowKit Go.Proofs.YtbcmckfceeakhaaW.PrintWords Go.Proofs.YtbcmckfceeakhaaW.PrintLast Go.Proofs.Ytbcmckfceeakhaa.GL

theorem reach_eq (l : List Int) : fromL l 0 (-1) = reachL l := by
  refine list_on (by rw [fromL_len]; unfold reachL; simp) fun q hq => ?_
  rw [fromL_len] at hq
  rw [fromL_on hq]
  have : onB (reachL l) q ↔ AG.Reached (nxL l) q := by
    unfold onB reachL
    simp [List.getD_eq_getElem?_getD, hq]
  rw [this]
  exact ⟨fun h => h.2.weaken fun _ _ => trivial, fun h => ⟨⟨by omega, by omega, by omega⟩, h.weaken fun _ _ => by omega⟩⟩
theorem reachL_on {l : List Int} {q : Nat} (hq : q < l.length) : onB (reachL l) q ↔ AG.Reached (nxL l) q := by
  unfold onB reachL
  simp [List.getD_eq_getElem?_getD, hq]
theorem reachL_len (l : List Int) : (reachL l).length = l.length := by unfold reachL; simp
theorem reached_ref {l : List Int} (hok : okW l) : Ev (fun k => astrolaberef18_Reached.f k l) (reachL l) := by
  have h := from_ref hok 0 (-1)
  rw [reach_eq] at h
  exact Ev.bind h (Ev.now _)
theorem rdOf_on {s : List Bool} {a : Int} : rdOf false s a = true ↔ onB s a.toNat := Iff.rfl
theorem ahead_ref {l : List Int} (hok : okW l) (a b : Int) : Ev (fun k => astrolaberef18_Ahead.f k l a b) (aheadB l a b) := by
  have hlen := reachL_len l
  unfold astrolaberef18_Ahead.f
  refine Ev.bind (reached_ref hok) ?_
  by_cases hin : 0 ≤ a ∧ a < l.length ∧ 0 ≤ b ∧ b < l.length
  · obtain ⟨h1, h2, h3, h4⟩ := hin
    have g1 : ¬ a < 0 := by omega
    have g2 : ¬ b < 0 := by omega
    have g3 : ¬ a ≥ ((reachL l).length : Int) := by rw [hlen]; omega
    have g4 : ¬ b ≥ ((reachL l).length : Int) := by rw [hlen]; omega
    have g5 : a < ((reachL l).length : Int) := by rw [hlen]; omega
    have g6 : b < ((reachL l).length : Int) := by rw [hlen]; omega
    simp only [if_neg g1, if_neg g2, if_neg g3, if_neg g4, if_pos h1, if_pos g5, if_pos h3, if_pos g6]
    have na : a.toNat < l.length := by omega
    have nb : b.toNat < l.length := by omega
    by_cases ra : AG.Reached (nxL l) a.toNat
    · simp only [if_pos (rdOf_on.2 ((reachL_on na).2 ra))]
      by_cases rb : AG.Reached (nxL l) b.toNat
      · simp only [if_pos (rdOf_on.2 ((reachL_on nb).2 rb))]
        by_cases hab : a = b
        · simp only [if_pos hab]
          have : aheadB l a b = true := aheadB_iff.2 ⟨⟨h1, h2, h3, h4⟩, rb, .inl (by rw [hab])⟩
          rw [this]
          exact Ev.now _
        · simp only [if_neg hab]
          refine Ev.bind (from_ref hok 0 a) ?_
          have g7 : b < ((fromL l 0 a).length : Int) := by rw [fromL_len]; exact h4
          simp only [if_pos g7]
          have : (!rdOf false (fromL l 0 a) b) = aheadB l a b := by
            refine Bool.eq_iff_iff.2 ?_
            rw [Bool.not_eq_true', ← Bool.not_eq_true, rdOf_on, fromL_on nb, aheadB_iff]
            constructor
            · intro h
              refine ⟨⟨h1, h2, h3, h4⟩, rb, .inr fun hr => h ⟨⟨by omega, by omega, ?_⟩, hr.weaken fun x hx => by omega⟩⟩
              have := hr.ok_from
              omega
            · rintro ⟨_, _, h | h⟩ hh
              · omega
              · exact h (hh.2.weaken fun x hx => by omega)
          rw [this]
          exact Ev.now _
      · have e : rdOf false (reachL l) b = false := Bool.eq_false_iff.2 fun h => rb ((reachL_on nb).1 (rdOf_on.1 h))
        simp only [e, Bool.false_eq_true, if_false]
        have : aheadB l a b = false := Bool.eq_false_iff.2 fun h => rb (aheadB_iff.1 h).2.1
        rw [this]
        exact Ev.now _
    · have e : rdOf false (reachL l) a = false := Bool.eq_false_iff.2 fun h => ra ((reachL_on na).1 (rdOf_on.1 h))
      simp only [e, Bool.false_eq_true, if_false]
      have : aheadB l a b = false := Bool.eq_false_iff.2 fun h => ra (AG.dom_reached (aheadB_iff.1 h).2.1 (aheadB_iff.1 h).2.2)
      rw [this]
      exact Ev.now _
  · have : aheadB l a b = false := Bool.eq_false_iff.2 fun h => hin (aheadB_iff.1 h).1
    rw [this]
    by_cases g1 : a < 0
    · simp only [if_pos g1]; exact Ev.now _
    · by_cases g2 : b < 0
      · simp only [if_neg g1, if_pos g2]; exact Ev.now _
      · by_cases g3 : a ≥ ((reachL l).length : Int)
        · simp only [if_neg g1, if_neg g2, if_pos g3]; exact Ev.now _
        · by_cases g4 : b ≥ ((reachL l).length : Int)
          · simp only [if_neg g1, if_neg g2, if_neg g3, if_pos g4]; exact Ev.now _
          · rw [hlen] at g3 g4; omega
open Classical in
theorem bkOf_cons (l : List Int) (p : Nat) (q : Int) (ys : List Int) : bkOf l p (q :: ys) = (if aheadP l q.toNat p then [⟨(p : Int), q⟩] else []) ++ bkOf l p ys := by
  unfold bkOf
  by_cases h : aheadP l q.toNat p
  · rw [if_pos h, List.filter_cons_of_pos (by simpa using h)]; rfl
  · rw [if_neg h, List.filter_cons_of_neg (by simpa using h)]; rfl
theorem rd_at {t : List Int} {j : Nat} (hj : j < t.length) : rd t (j : Int) = t[j] := by
  show t.getD ((j : Int).toNat) _ = _
  rw [Int.toNat_natCast]; simp [hj]
theorem aheadB_at {l : List Int} (hok : okW l) {p : Nat} (hp : p < l.length) {y : Int} (hy : y ∈ nextL l p) : aheadB l y p = true ↔ aheadP l y.toNat p := by
  have := nextL_lt hok hy
  rw [aheadB_iff, Int.toNat_natCast]
  exact ⟨fun h => h.2, fun h => ⟨by omega, h⟩⟩
theorem backs1_run {l : List Int} (hok : okW l) {p : Nat} (hp : p < l.length) (d : Nat) : ∀ (j : Nat) (acc : List S40), (nextL l p).length - j = d → j ≤ (nextL l p).length → acc.length ≤ 2 * p + j →
    ∀ r, Ev (fun k => astrolaberef18_Backs.l0 k l (acc ++ bkOf l p ((nextL l p).drop j)) ((p + 1 : Nat) : Int)) r → Ev (fun k => astrolaberef18_Backs.l1 k l acc p (nextL l p) j) r := by
  have hl := hok.1
  have hlen := nextL_len l p
  have hwp := w64 (i := (p : Int)) (by omega) (by omega)
  induction d with
  | zero =>
    intro j acc hd hj _ r hr
    refine Ev.step (fun k => ?_) hr
    simp only [astrolaberef18_Backs.l1]
    rw [if_neg (by omega), List.drop_eq_nil_of_le (by omega), hwp]
    show _ = astrolaberef18_Backs.l0 k l (acc ++ []) _
    rw [List.append_nil]
    rfl
  | succ d ih =>
    intro j acc hd hj ha r hr
    have hjl : j < (nextL l p).length := by omega
    have e := rd_at hjl
    have hdr : (nextL l p).drop j = (nextL l p)[j] :: (nextL l p).drop (j + 1) := List.drop_eq_getElem_cons hjl
    have hmem : (nextL l p)[j] ∈ nextL l p := List.getElem_mem hjl
    have hw := w64 (i := (j : Int)) (by omega) (by omega)
    generalize (nextL l p)[j] = y at *
    rw [hdr, bkOf_cons] at hr
    refine Ev.step (f := fun k => (astrolaberef18_Ahead.f k l y p).bind fun t197 => (if t197 = true then (if acc.length < 8796093022208 then (astrolaberef18_Backs.l1 k l (acc ++ [(⟨(p : Int), y⟩ : S40)]) p (nextL l p) ((j + 1 : Nat) : Int)) else (none)) else (astrolaberef18_Backs.l1 k l acc p (nextL l p) ((j + 1 : Nat) : Int)))) (fun k => ?_) (Ev.bind (ahead_ref hok y p) ?_)
    · simp only [astrolaberef18_Backs.l1]
      rw [if_pos (by omega), if_pos (by omega), e, hw]
      rfl
    · by_cases h : aheadP l y.toNat p
      · rw [if_pos h, ← List.append_assoc] at hr
        simp only [if_pos ((aheadB_at hok hp hmem).2 h), if_pos (show acc.length < 8796093022208 by omega)]
        exact ih (j + 1) _ (by omega) (by omega) (by rw [List.length_append]; simp; omega) r hr
      · rw [if_neg h, List.nil_append] at hr
        simp only [if_neg (fun c => h ((aheadB_at hok hp hmem).1 c))]
        exact ih (j + 1) _ (by omega) (by omega) (by omega) r hr
theorem backs0_run {l : List Int} (hok : okW l) (d : Nat) : ∀ p : Nat, l.length - p = d → p ≤ l.length → Ev (fun k => astrolaberef18_Backs.l0 k l (backsTo l p) p) (backsTo l l.length) := by
  induction d with
  | zero =>
    intro p hd hp
    obtain rfl : p = l.length := by omega
    refine Ev.step (f := fun _ => some (backsTo l l.length)) (fun k => ?_) (Ev.now _)
    simp only [astrolaberef18_Backs.l0]
    rw [if_neg (by omega)]
  | succ d ih =>
    intro p hd hp
    have hpl : p < l.length := by omega
    have h1 := ih (p + 1) (by omega) (by omega)
    rw [backsTo_succ] at h1
    have hb := backsTo_len l p
    refine Ev.step (f := fun k => (astrolaberef18_Next.f k l p).bind fun t => astrolaberef18_Backs.l1 k l (backsTo l p) p t 0) (fun k => ?_) (Ev.bind (ev_next l p hok) (backs1_run hok hpl _ 0 (backsTo l p) rfl (Nat.zero_le _) (by omega) _ (by rw [List.drop_zero]; exact h1)))
    simp only [astrolaberef18_Backs.l0]
    rw [if_pos (by omega)]
theorem backs_ref {l : List Int} (hok : okW l) : Ev (fun k => astrolaberef18_Backs.f k l) (backsTo l l.length) := backs0_run hok _ 0 rfl (Nat.zero_le _)
end Go.Proofs.Ytbcmckfceeakhaa.Gv
end

section
set_option linter.unusedVariables false
set_option linter.unusedSimpArgs false
namespace Go.Proofs.Ytbcmckfceeakhaa.Gv
open Go.RowKit Go.Proofs.YtbcmckfceeakhaaW.PrintWords Go.Proofs.YtbcmckfceeakhaaW.PrintLast Go.Proofs.Ytbcmckfceeakhaa.GL

theorem cyc1_run {l : List Int} (hok : okW l) {p : Nat} (hp : p < l.length) (d : Nat) : ∀ (j : Nat), (nextL l p).length - j = d → j ≤ (nextL l p).length →
    (AG.Reached (nxL l) p → ∀ x ∈ (nextL l p).take j, ¬ AG.Rch (nxL l) AG.any x.toNat p) →
    (Ev (fun k => astrolaberef18_Cyclic.l1 k l (reachL l) p (nextL l p) j) true ∧ AG.Cyc (nxL l)) ∨
    ((AG.Reached (nxL l) p → ∀ x ∈ nextL l p, ¬ AG.Rch (nxL l) AG.any x.toNat p) ∧ ∀ r, Ev (fun k => astrolaberef18_Cyclic.l0 k l (reachL l) ((p + 1 : Nat) : Int)) r → Ev (fun k => astrolaberef18_Cyclic.l1 k l (reachL l) p (nextL l p) j) r) := by
  have hl := hok.1
  have hlen := nextL_len l p
  have hrl := reachL_len l
  have hwp := w64 (i := (p : Int)) (by omega) (by omega)
  induction d with
  | zero =>
    intro j hd hj hno
    refine .inr ⟨fun hr x hx => hno hr x (by rw [List.take_of_length_le (by omega)]; exact hx), fun r hr => Ev.step (fun k => ?_) hr⟩
    simp only [astrolaberef18_Cyclic.l1]
    rw [if_neg (by omega), hwp]
    rfl
  | succ d ih =>
    intro j hd hj hno
    have hjl : j < (nextL l p).length := by omega
    have e := rd_at hjl
    have hmem : (nextL l p)[j] ∈ nextL l p := List.getElem_mem hjl
    have htk : (nextL l p).take (j + 1) = (nextL l p).take j ++ [(nextL l p)[j]] := by rw [List.take_succ_eq_append_getElem hjl]
    have hw := w64 (i := (j : Int)) (by omega) (by omega)
    have hy := nextL_lt hok hmem
    generalize (nextL l p)[j] = y at *
    have hread : rdOf false (reachL l) (p : Int) = true ↔ AG.Reached (nxL l) p := by rw [rdOf_on, Int.toNat_natCast, reachL_on hp]
    by_cases hr : AG.Reached (nxL l) p
    · have hy2 : rdOf false (fromL l y (-1)) (p : Int) = true ↔ AG.Rch (nxL l) AG.any y.toNat p := by
        rw [rdOf_on, Int.toNat_natCast, fromL_on hp]
        exact ⟨fun h => h.2.weaken fun _ _ => trivial, fun h => ⟨⟨hy.1, hy.2, by omega⟩, h.weaken fun _ _ => by omega⟩⟩
      have step : ∀ r, Ev (fun k => (astrolaberef18_from.f k l y (-1)).bind fun t210 => (if (p : Int) < (t210.length : Int) then (if rdOf false t210 (p : Int) = true then (some true) else (astrolaberef18_Cyclic.l1 k l (reachL l) p (nextL l p) ((j + 1 : Nat) : Int))) else (none))) r → Ev (fun k => astrolaberef18_Cyclic.l1 k l (reachL l) p (nextL l p) j) r := fun r h => Ev.step (fun k => by
        simp only [astrolaberef18_Cyclic.l1]
        rw [if_pos (by omega), if_pos (by omega), if_pos (by omega), if_pos (hread.2 hr), if_pos (by omega), e, hw]
        rfl) h
      have gp : (p : Int) < ((fromL l y (-1)).length : Int) := by rw [fromL_len]; omega
      by_cases hc : AG.Rch (nxL l) AG.any y.toNat p
      · refine .inl ⟨step _ (Ev.bind (from_ref hok y (-1)) ?_), p, y.toNat, hr, (by rw [nxL_eq hp]; exact List.mem_map.2 ⟨y, hmem, rfl⟩), hc⟩
        simp only [if_pos gp, if_pos (hy2.2 hc)]
        exact Ev.now _
      · have hn : rdOf false (fromL l y (-1)) (p : Int) ≠ true := fun h => hc (hy2.1 h)
        have hno' : AG.Reached (nxL l) p → ∀ x ∈ (nextL l p).take (j + 1), ¬ AG.Rch (nxL l) AG.any x.toNat p := fun h x hx => by
          rw [htk, List.mem_append] at hx
          rcases hx with hx | hx
          · exact hno h x hx
          · rw [List.mem_singleton.1 hx]; exact hc
        rcases ih (j + 1) (by omega) (by omega) hno' with ⟨a, b⟩ | ⟨a, b⟩
        · refine .inl ⟨step _ (Ev.bind (from_ref hok y (-1)) ?_), b⟩
          simp only [if_pos gp, if_neg hn]
          exact a
        · refine .inr ⟨a, fun r h => step _ (Ev.bind (from_ref hok y (-1)) ?_)⟩
          simp only [if_pos gp, if_neg hn]
          exact b r h
    · have step : ∀ r, Ev (fun k => astrolaberef18_Cyclic.l1 k l (reachL l) p (nextL l p) ((j + 1 : Nat) : Int)) r → Ev (fun k => astrolaberef18_Cyclic.l1 k l (reachL l) p (nextL l p) j) r := fun r h => Ev.step (fun k => by
        simp only [astrolaberef18_Cyclic.l1]
        rw [if_pos (by omega), if_pos (by omega), if_pos (by omega), if_neg (fun h => hr (hread.1 h)), hw]
        rfl) h
      rcases ih (j + 1) (by omega) (by omega) (fun h => absurd h hr) with ⟨a, b⟩ | ⟨a, b⟩
      · exact .inl ⟨step _ a, b⟩
      · exact .inr ⟨a, fun r h => step _ (b r h)⟩
theorem cyc0_run {l : List Int} (hok : okW l) (d : Nat) : ∀ p : Nat, l.length - p = d → p ≤ l.length → (∀ q, q < p → AG.Reached (nxL l) q → ∀ x ∈ nextL l q, ¬ AG.Rch (nxL l) AG.any x.toNat q) →
    (Ev (fun k => astrolaberef18_Cyclic.l0 k l (reachL l) p) true ∧ AG.Cyc (nxL l)) ∨ (Ev (fun k => astrolaberef18_Cyclic.l0 k l (reachL l) p) false ∧ ∀ q, q < l.length → AG.Reached (nxL l) q → ∀ x ∈ nextL l q, ¬ AG.Rch (nxL l) AG.any x.toNat q) := by
  induction d with
  | zero =>
    intro p hd hp hno
    obtain rfl : p = l.length := by omega
    refine .inr ⟨Ev.step (f := fun _ => some false) (fun k => ?_) (Ev.now _), hno⟩
    simp only [astrolaberef18_Cyclic.l0]
    rw [if_neg (by omega)]
  | succ d ih =>
    intro p hd hp hno
    have hpl : p < l.length := by omega
    have step : ∀ r, Ev (fun k => astrolaberef18_Cyclic.l1 k l (reachL l) p (nextL l p) ((0 : Nat) : Int)) r → Ev (fun k => astrolaberef18_Cyclic.l0 k l (reachL l) p) r := fun r h =>
      Ev.step (f := fun k => (astrolaberef18_Next.f k l p).bind fun t => astrolaberef18_Cyclic.l1 k l (reachL l) p t 0) (fun k => by
        simp only [astrolaberef18_Cyclic.l0]
        rw [if_pos (by omega)]) (Ev.bind (ev_next l p hok) h)
    rcases cyc1_run hok hpl _ 0 rfl (Nat.zero_le _) (fun _ x hx => by simp at hx) with ⟨a, b⟩ | ⟨a, b⟩
    · exact .inl ⟨step _ a, b⟩
    · rcases ih (p + 1) (by omega) (by omega) (fun q hq => by
        by_cases e : q = p
        · subst e; exact a
        · exact hno q (by omega)) with ⟨c, e⟩ | ⟨c, e⟩
      · exact .inl ⟨step _ (b _ c), e⟩
      · exact .inr ⟨step _ (b _ c), e⟩
open Classical in
theorem cyclic_ref {l : List Int} (hok : okW l) : Ev (fun k => astrolaberef18_Cyclic.f k l) (decide (0 < l.length ∧ AG.Cyc (nxL l))) := by
  unfold astrolaberef18_Cyclic.f
  refine Ev.bind (reached_ref hok) ?_
  have h0 := cyc0_run hok _ 0 rfl (Nat.zero_le _) (fun q hq => absurd hq (Nat.not_lt_zero _))
  rcases h0 with ⟨a, b⟩ | ⟨a, b⟩
  · have : decide (0 < l.length ∧ AG.Cyc (nxL l)) = true := by
      refine decide_eq_true ⟨?_, b⟩
      obtain ⟨p, q, _, hq, _⟩ := b
      by_cases c : 0 < l.length
      · exact c
      · have := nx_lt hok hq; omega
    rw [this]
    exact a
  · have : decide (0 < l.length ∧ AG.Cyc (nxL l)) = false := by
      refine decide_eq_false fun ⟨h0, p, q, hp, hq, hr⟩ => ?_
      have hpl := reached_lt hok h0 hp
      have hm := (nx_mem hok hpl).1 hq
      exact b p hpl hp _ hm (by rw [Int.toNat_natCast]; exact hr)
    rw [this]
    exact a
open Classical in
theorem inTest_ref {l : List Int} (hok : okW l) {h : Int} {p : Nat} (hp : p < l.length) {b : S40} (hb : b ∈ backsTo l l.length) :
    Ev (fun k => inTest k l h (reachL l) p b) (decide (b.f1 = h ∧ AG.InLoop (nxL l) h.toNat b.f0.toNat p)) := by
  obtain ⟨p0, hp0, hf0, hf1, _⟩ := backs_mem hb
  have hlt := nextL_lt hok hf1
  have hread : rdOf false (reachL l) (p : Int) = true ↔ AG.Reached (nxL l) p := by rw [rdOf_on, Int.toNat_natCast, reachL_on hp]
  unfold inTest
  by_cases c1 : b.f1 = h
  · rw [c1] at hlt
    simp only [if_pos c1]
    by_cases c2 : AG.Reached (nxL l) p
    · simp only [if_pos (hread.2 c2)]
      by_cases c3 : (p : Int) = h
      · simp only [if_pos c3]
        rw [decide_eq_true (show b.f1 = h ∧ AG.InLoop (nxL l) h.toNat b.f0.toNat p from ⟨c1, c2, .inl (by omega)⟩)]
        exact Ev.now _
      · simp only [if_neg c3]
        by_cases c4 : b.f0 = (p : Int)
        · simp only [if_pos c4]
          rw [decide_eq_true (show b.f1 = h ∧ AG.InLoop (nxL l) h.toNat b.f0.toNat p from ⟨c1, c2, .inr (.inl (by omega))⟩)]
          exact Ev.now _
        · simp only [if_neg c4]
          refine Ev.bind (from_ref hok (p : Int) h) ?_
          have g : 0 ≤ b.f0 ∧ b.f0 < ((fromL l (p : Int) h).length : Int) := by rw [fromL_len, hf0]; omega
          simp only [if_pos g]
          have e : rdOf false (fromL l (p : Int) h) b.f0 = decide (b.f1 = h ∧ AG.InLoop (nxL l) h.toNat b.f0.toNat p) := by
            refine Bool.eq_iff_iff.2 ?_
            rw [rdOf_on, fromL_on (by omega), decide_eq_true_iff, Int.toNat_natCast]
            constructor
            · exact fun k => ⟨c1, c2, .inr (.inr (k.2.weaken fun x hx => by omega))⟩
            · rintro ⟨_, _, k | k | k⟩
              · omega
              · omega
              · exact ⟨⟨by omega, by omega, c3⟩, k.weaken fun x hx => by omega⟩
          rw [e]
          exact Ev.now _
    · simp only [if_neg (fun k => c2 (hread.1 k))]
      rw [decide_eq_false (show ¬ (b.f1 = h ∧ AG.InLoop (nxL l) h.toNat b.f0.toNat p) from fun k => c2 k.2.1)]
      exact Ev.now _
  · simp only [if_neg c1]
    rw [decide_eq_false (show ¬ (b.f1 = h ∧ AG.InLoop (nxL l) h.toNat b.f0.toNat p) from fun k => c1 k.1)]
    exact Ev.now _
open Classical in
theorem inAll_ref {l : List Int} (hok : okW l) {h : Int} {p : Nat} (hp : p < l.length) : ∀ (bs : List S40) (acc : Bool), (∀ b ∈ bs, b ∈ backsTo l l.length) →
    Ev (fun k => inAll k l h (reachL l) p bs acc) (decide (acc = true ∨ ∃ b, b ∈ bs ∧ b.f1 = h ∧ AG.InLoop (nxL l) h.toNat b.f0.toNat p))
  | [], acc, _ => by
    have e : decide (acc = true ∨ ∃ b, b ∈ ([] : List S40) ∧ b.f1 = h ∧ AG.InLoop (nxL l) h.toNat b.f0.toNat p) = acc := by
      refine Bool.eq_iff_iff.2 ?_
      rw [decide_eq_true_iff]
      exact ⟨fun k => k.elim id fun ⟨b, hb, _⟩ => (List.not_mem_nil hb).elim, .inl⟩
    rw [e]
    exact Ev.now _
  | b :: bs, acc, hm => by
    refine Ev.bind (inTest_ref hok hp (hm b (List.mem_cons_self))) ?_
    have ih := inAll_ref hok (h := h) hp bs (if decide (b.f1 = h ∧ AG.InLoop (nxL l) h.toNat b.f0.toNat p) = true then true else acc) (fun b' hb' => hm b' (List.mem_cons_of_mem _ hb'))
    have e : decide ((if decide (b.f1 = h ∧ AG.InLoop (nxL l) h.toNat b.f0.toNat p) = true then true else acc) = true ∨ ∃ b, b ∈ bs ∧ b.f1 = h ∧ AG.InLoop (nxL l) h.toNat b.f0.toNat p) =
        decide (acc = true ∨ ∃ b', b' ∈ b :: bs ∧ b'.f1 = h ∧ AG.InLoop (nxL l) h.toNat b'.f0.toNat p) := by
      refine decide_eq_decide.2 ?_
      by_cases c : b.f1 = h ∧ AG.InLoop (nxL l) h.toNat b.f0.toNat p
      · rw [if_pos (decide_eq_true c)]
        exact ⟨fun _ => .inr ⟨b, List.mem_cons_self, c⟩, fun _ => .inl rfl⟩
      · rw [if_neg (fun k => c (of_decide_eq_true k))]
        refine or_congr Iff.rfl ⟨fun ⟨x, hx, hy⟩ => ⟨x, List.mem_cons_of_mem _ hx, hy⟩, fun ⟨x, hx, hy⟩ => ?_⟩
        rcases List.mem_cons.1 hx with rfl | hx
        · exact absurd hy c
        · exact ⟨x, hx, hy⟩
    rw [e] at ih
    exact ih
open Classical in
theorem inRows_ref {l : List Int} (hok : okW l) {h : Int} : ∀ (d : Nat) (out : List Int), d ≤ l.length →
    Ev (fun k => inRows k l h (reachL l) (backsTo l l.length) d out) (out ++ ((List.range' (l.length - d) d).filter fun x => decide (loopP l h x)).map fun x : Nat => (x : Int))
  | 0, out, _ => by
    rw [List.range'_zero]
    show Ev (fun _ => some out) (out ++ [])
    rw [List.append_nil]
    exact Ev.now _
  | d + 1, out, hd => by
    refine Ev.bind (inAll_ref hok (h := h) (p := l.length - (d + 1)) (by omega) (backsTo l l.length) false (fun _ hb => hb)) ?_
    have ih := inRows_ref hok (h := h) d (if decide (false = true ∨ ∃ b, b ∈ backsTo l l.length ∧ b.f1 = h ∧ AG.InLoop (nxL l) h.toNat b.f0.toNat (l.length - (d + 1))) = true then out ++ [((l.length - (d + 1) : Nat) : Int)] else out) (by omega)
    have e2 : l.length - (d + 1) + 1 = l.length - d := by omega
    have e : (false = true ∨ ∃ b, b ∈ backsTo l l.length ∧ b.f1 = h ∧ AG.InLoop (nxL l) h.toNat b.f0.toNat (l.length - (d + 1))) ↔ loopP l h (l.length - (d + 1)) := ⟨fun k => k.elim (fun k => by cases k) id, .inr⟩
    rw [List.range'_succ, e2]
    by_cases c : loopP l h (l.length - (d + 1))
    · rw [if_pos (decide_eq_true (e.2 c))] at ih
      simp only [if_pos (decide_eq_true (e.2 c))]
      rw [List.filter_cons_of_pos (by simpa using c), List.map_cons]
      rw [List.append_assoc] at ih
      exact ih
    · have c' : ¬ decide (false = true ∨ ∃ b, b ∈ backsTo l l.length ∧ b.f1 = h ∧ AG.InLoop (nxL l) h.toNat b.f0.toNat (l.length - (d + 1))) = true := fun k => c (e.1 (of_decide_eq_true k))
      rw [if_neg c'] at ih
      simp only [if_neg c']
      rw [List.filter_cons_of_neg (by simpa using c)]
      exact ih
theorem loop_ref {l : List Int} (hok : okW l) (h : Int) : Ev (fun k => astrolaberef18_Loop.f k l h) (loopL l h) := by
  have hl := hok.1
  unfold astrolaberef18_Loop.f
  simp only [if_pos (show l.length ≤ 1000000 by omega)]
  refine Ev.bind (backs_ref hok) (Ev.bind (reached_ref hok) ?_)
  simp only [if_pos (reachL_len l)]
  have h0 := inRows_ref hok (h := h) l.length [] (Nat.le_refl _)
  rw [Nat.sub_self, List.nil_append, ← List.range_eq_range'] at h0
  exact h0
end Go.Proofs.Ytbcmckfceeakhaa.Gv
end

section
set_option linter.unusedVariables false
set_option linter.unusedSimpArgs false
namespace Go.Proofs.Ytbcmckfceeakhaa.Gv
open Go.RowKit Go.Proofs.YtbcmckfceeakhaaW.PrintWords Go.Proofs.YtbcmckfceeakhaaW.PrintLast Go.Proofs.Ytbcmckfceeakhaa.GL

theorem same_run (l : List Int) (hl : l.length ≤ 1000000) (d : Nat) : ∀ j : Nat, l.length - j = d → Ev (fun k => astrolaberef17_Same.l0 k l l j) true := by
  induction d with
  | zero =>
    intro j hd
    refine Ev.step (f := fun _ => some true) (fun k => ?_) (Ev.now _)
    simp only [astrolaberef17_Same.l0]
    rw [if_neg (by omega)]
  | succ d ih =>
    intro j hd
    have hw := w64 (i := (j : Int)) (by omega) (by omega)
    refine Ev.step (f := fun k => astrolaberef17_Same.l0 k l l ((j + 1 : Nat) : Int)) (fun k => ?_) (ih (j + 1) (by omega))
    simp only [astrolaberef17_Same.l0]
    rw [if_pos (by omega), if_pos (by omega), if_pos (by omega), hw]
    simp only [if_true]
    rfl
theorem same_refl (l : List Int) (hl : l.length ≤ 1000000) : Ev (fun k => astrolaberef18_Same.f k l l) true := by
  have h : Ev (fun k => astrolaberef17_Same.f k l l) true := by
    unfold astrolaberef17_Same.f
    simp only [if_true]
    exact same_run l hl _ 0 rfl
  unfold astrolaberef18_Same.f
  first | exact h | exact Ev.bind h (Ev.now _)
theorem fixes_run (l : List S40) (hl : l.length ≤ 1000000) (d : Nat) : ∀ j : Nat, l.length - j = d → Ev (fun k => astrolaberef18_Fixes.l0 k l l j) true := by
  induction d with
  | zero =>
    intro j hd
    refine Ev.step (f := fun _ => some true) (fun k => ?_) (Ev.now _)
    simp only [astrolaberef18_Fixes.l0]
    rw [if_neg (by omega)]
  | succ d ih =>
    intro j hd
    have hw := w64 (i := (j : Int)) (by omega) (by omega)
    refine Ev.step (f := fun k => astrolaberef18_Fixes.l0 k l l ((j + 1 : Nat) : Int)) (fun k => ?_) (ih (j + 1) (by omega))
    simp only [astrolaberef18_Fixes.l0]
    rw [if_pos (by omega), if_pos (by omega), if_pos (by omega), hw]
    simp
theorem fixes_refl (l : List S40) (hl : l.length ≤ 1000000) : Ev (fun k => astrolaberef18_Fixes.f k l l) true := by
  unfold astrolaberef18_Fixes.f
  simp only [if_true]
  exact fixes_run l hl _ 0 rfl
/-- The page's example. -/
def egW : List Int := [2617245697, 2415919104]
theorem eg_ok : okW egW := by
  refine ⟨by decide, fun x hx => ?_⟩
  unfold egW at hx
  simp at hx
  omega
theorem eg_len : egW.length = 2 := rfl
theorem eg_next0 : nextL egW 0 = [1] := by
  rw [nextL_eq (by decide) (by decide)]
  have e : rd egW 0 = 2617245697 := rfl
  rw [e, dec_eq _ (by decide) (by decide)]
  have e2 : decP 2617245697 = (39, 0, 0, 0, 1, 0) := by decide
  rw [e2, nexts_eq]
  decide
theorem eg_next1 : nextL egW 1 = [0] := by
  rw [nextL_eq (by decide) (by decide)]
  have e : rd egW 1 = 2415919104 := rfl
  rw [e, dec_eq _ (by decide) (by decide)]
  have e2 : decP 2415919104 = (36, 0, 0, 0, 0, 0) := by decide
  rw [e2, nexts_eq]
  decide
theorem eg_nx0 : nxL egW 0 = [1] := by rw [nxL_eq (by decide)]; show (nextL egW 0).map Int.toNat = _; rw [eg_next0]; rfl
theorem eg_nx1 : nxL egW 1 = [0] := by rw [nxL_eq (by decide)]; show (nextL egW 1).map Int.toNat = _; rw [eg_next1]; rfl
theorem eg_r0 : AG.Reached (nxL egW) 0 := .here trivial
theorem eg_r1 : AG.Reached (nxL egW) 1 := .step eg_r0 (by rw [eg_nx0]; simp) trivial
theorem eg_dom : aheadP egW 0 1 := ⟨eg_r1, .inr fun h => h.ok_from rfl⟩
theorem eg_not : ¬ aheadP egW 1 0 := fun h => h.2.elim (fun k => by cases k) (fun k => k (.here (by decide)))
theorem eg_backs : backsTo egW 2 = [⟨1, 0⟩] := by
  rw [backsTo_succ, backsTo_succ]
  have e0 : backsTo egW 0 = [] := rfl
  have n0 : nextL egW ((0 : Nat) : Int) = [1] := eg_next0
  have n1 : nextL egW ((0 + 1 : Nat) : Int) = [0] := eg_next1
  rw [e0, n0, n1, bkOf_cons, bkOf_cons, if_neg (show ¬ aheadP egW (Int.toNat 1) 0 from eg_not), if_pos (show aheadP egW (Int.toNat 0) (0 + 1) from eg_dom)]
  rfl
theorem eg_ahead : aheadB egW 0 1 = true := aheadB_iff.2 ⟨⟨by decide, by decide, by decide, by decide⟩, eg_dom⟩
theorem eg_way : AG.Rch (nxL egW) AG.any 0 1 := .step (.here trivial) (by rw [eg_nx0]; simp) trivial
theorem eg_cyc : AG.Cyc (nxL egW) := ⟨1, 0, eg_r1, by rw [eg_nx1]; simp, eg_way⟩
theorem eg_loop : loopL egW 0 = [0, 1] := by
  have hb : (⟨1, 0⟩ : S40) ∈ backsTo egW egW.length := by rw [eg_len, eg_backs]; simp
  have p0 : loopP egW 0 0 := ⟨_, hb, rfl, eg_r0, .inl rfl⟩
  have p1 : loopP egW 0 1 := ⟨_, hb, rfl, eg_r1, .inr (.inl rfl)⟩
  unfold loopL
  rw [eg_len, show List.range 2 = [0, 1] from rfl, List.filter_cons_of_pos (by simpa using p0), List.filter_cons_of_pos (by simpa using p1)]
  rfl
open Classical in
theorem awake_ev : Ev (fun k => astrolabelaw18_awake.f k) true := by
  have hok := eg_ok
  unfold astrolabelaw18_awake.f
  simp only [Option.bind_some]
  have n : graph_Next.f [2617245697, 2415919104] 1 = some [0] := by
    show graph_Next.f egW 1 = _
    unfold graph_Next.f; rw [if_pos hok, eg_next1]
  have a : graph_Ahead.f [2617245697, 2415919104] 0 1 = some true := by
    show graph_Ahead.f egW 0 1 = _
    unfold graph_Ahead.f; rw [if_pos hok, eg_ahead]
  have b : graph_Backs.f [2617245697, 2415919104] = some [⟨1, 0⟩] := by
    show graph_Backs.f egW = _
    unfold graph_Backs.f; rw [if_pos hok, eg_len, eg_backs]
  have c : graph_Cyclic.f [2617245697, 2415919104] = some true := by
    show graph_Cyclic.f egW = _
    unfold graph_Cyclic.f; rw [if_pos hok, decide_eq_true (show 0 < egW.length ∧ AG.Cyc (nxL egW) from ⟨by decide, eg_cyc⟩)]
  have d : graph_Loop.f [2617245697, 2415919104] 0 = some [0, 1] := by
    show graph_Loop.f egW 0 = _
    unfold graph_Loop.f; rw [if_pos hok, eg_loop]
  simp only [n, a, b, c, d, Option.bind_some, if_true]
  refine Ev.bind (same_refl _ (by decide)) ?_
  simp only [if_true]
  refine Ev.bind (fixes_refl _ (by decide)) ?_
  simp only [if_true]
  exact Ev.bind (same_refl _ (by decide)) (Ev.now _)
end Go.Proofs.Ytbcmckfceeakhaa.Gv
end
