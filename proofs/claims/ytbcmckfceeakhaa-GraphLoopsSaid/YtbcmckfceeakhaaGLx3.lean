-- Printed by a program of this session (wip/tools/turnprint.py), out of the translation. Not trusted: Lean checks it.
-- squeezed: the indentation halved
import Derived.Test.YtbcmckfceeakhaaGLx0
namespace Go.Proofs.Ytbcmckfceeakhaa.GL
open Go.RowKit Go.Proofs.YtbcmckfceeakhaaW.PrintWords Go.Proofs.YtbcmckfceeakhaaW.PrintLast Go.Proofs.YtbcmckfceeakhaaW.PrintMore
attribute [local go_sem] max2_int min2_int max_two min_two max_three min_three max_four min_four   -- for this text's walks alone
set_option linter.unusedVariables false
set_option linter.unusedSimpArgs false

/-! ### astrolaberef06_Shape: function 75 -/
mutual
def astrolaberef06_Shape.j0 : Nat → Int → Bool → Option (ByteArray)
 | 0, _, _ => none
 | k + 1, x0, x8 => if x8 = true then (some (⟨#[100, 97, 98, 45]⟩ : ByteArray)) else (if x0 > 23 then (astrolaberef06_Shape.j1 k x0 (decide (x0 ≤ 30))) else (astrolaberef06_Shape.j1 k x0 false))
def astrolaberef06_Shape.j1 : Nat → Int → Bool → Option (ByteArray)
 | 0, _, _ => none
 | k + 1, x0, x14 => if x14 = true then (some (⟨#[100, 97, 45, 45]⟩ : ByteArray)) else (if x0 = 31 then (some (⟨#[100, 97, 45, 115]⟩ : ByteArray)) else (if x0 = 32 then (astrolaberef06_Shape.j2 k x0 (x0 == 32)) else (if x0 = 34 then (astrolaberef06_Shape.j2 k x0 (x0 == 34)) else (if x0 = 35 then (astrolaberef06_Shape.j2 k x0 (x0 == 35)) else (if x0 = 36 then (astrolaberef06_Shape.j2 k x0 (x0 == 36)) else (if x0 = 37 then (astrolaberef06_Shape.j2 k x0 (x0 == 37)) else (astrolaberef06_Shape.j2 k x0 (x0 == 38))))))))
def astrolaberef06_Shape.j2 : Nat → Int → Bool → Option (ByteArray)
 | 0, _, _ => none
 | k + 1, x15, x18 => if x18 = true then (some (⟨#[100, 97, 45, 117]⟩ : ByteArray)) else (if x15 = 33 then (astrolaberef06_Shape.j3 k x15 (x15 == 33)) else (astrolaberef06_Shape.j3 k x15 (x15 == 40)))
def astrolaberef06_Shape.j3 : Nat → Int → Bool → Option (ByteArray)
 | 0, _, _ => none
 | k + 1, x15, x25 => if x25 = true then (some (⟨#[100, 45, 45, 117]⟩ : ByteArray)) else (if x15 = 39 then (some (⟨#[45, 45, 45, 117]⟩ : ByteArray)) else (if x15 = 41 then (some (⟨#[45, 97, 45, 45]⟩ : ByteArray)) else (if x15 = 42 then (some (⟨#[45, 45, 45, 45]⟩ : ByteArray)) else (if x15 = 43 then (some (⟨#[45, 45, 45, 45]⟩ : ByteArray)) else (some (⟨#[]⟩ : ByteArray))))))
end
def astrolaberef06_Shape.f (k : Nat) (a0 : Int) : Option (ByteArray) := if a0 ≥ 1 then (astrolaberef06_Shape.j0 k a0 (decide (a0 ≤ 23))) else (astrolaberef06_Shape.j0 k a0 false)
theorem astrolaberef06_Shape.mono_l : ∀ k, (∀ y0 y1, LeO (astrolaberef06_Shape.j0 k y0 y1) (astrolaberef06_Shape.j0 (k + 1) y0 y1)) ∧ (∀ y0 y1, LeO (astrolaberef06_Shape.j1 k y0 y1) (astrolaberef06_Shape.j1 (k + 1) y0 y1)) ∧ (∀ y0 y1, LeO (astrolaberef06_Shape.j2 k y0 y1) (astrolaberef06_Shape.j2 (k + 1) y0 y1)) ∧ (∀ y0 y1, LeO (astrolaberef06_Shape.j3 k y0 y1) (astrolaberef06_Shape.j3 (k + 1) y0 y1))
 | 0 => ⟨fun _ _ r h => by simp [astrolaberef06_Shape.j0] at h, fun _ _ r h => by simp [astrolaberef06_Shape.j1] at h, fun _ _ r h => by simp [astrolaberef06_Shape.j2] at h, fun _ _ r h => by simp [astrolaberef06_Shape.j3] at h⟩
 | k + 1 => by
  obtain ⟨ih0, ih1, ih2, ih3⟩ := astrolaberef06_Shape.mono_l k
  refine ⟨?_, ?_, ?_, ?_⟩
  ·
   intro y0 y1
   unfold astrolaberef06_Shape.j0
   repeat' first
   | (with_reducible exact ih0 _ _)
   | (with_reducible exact ih1 _ _)
   | (with_reducible exact ih2 _ _)
   | (with_reducible exact ih3 _ _)
   | (with_reducible exact LeO.refl _)
   | (with_reducible exact LeO.none _)
   | (with_reducible refine LeO.ite ?_ ?_)
   | (with_reducible refine LeO.bind ?_ (fun _ => ?_))
   | exact ih0 _ _
   | exact ih1 _ _
   | exact ih2 _ _
   | exact ih3 _ _
   | exact LeO.none _
   | refine LeO.ite ?_ ?_
   | refine LeO.bind ?_ (fun _ => ?_)
  ·
   intro y0 y1
   unfold astrolaberef06_Shape.j1
   repeat' first
   | (with_reducible exact ih0 _ _)
   | (with_reducible exact ih1 _ _)
   | (with_reducible exact ih2 _ _)
   | (with_reducible exact ih3 _ _)
   | (with_reducible exact LeO.refl _)
   | (with_reducible exact LeO.none _)
   | (with_reducible refine LeO.ite ?_ ?_)
   | (with_reducible refine LeO.bind ?_ (fun _ => ?_))
   | exact ih0 _ _
   | exact ih1 _ _
   | exact ih2 _ _
   | exact ih3 _ _
   | exact LeO.none _
   | refine LeO.ite ?_ ?_
   | refine LeO.bind ?_ (fun _ => ?_)
  ·
   intro y0 y1
   unfold astrolaberef06_Shape.j2
   repeat' first
   | (with_reducible exact ih0 _ _)
   | (with_reducible exact ih1 _ _)
   | (with_reducible exact ih2 _ _)
   | (with_reducible exact ih3 _ _)
   | (with_reducible exact LeO.refl _)
   | (with_reducible exact LeO.none _)
   | (with_reducible refine LeO.ite ?_ ?_)
   | (with_reducible refine LeO.bind ?_ (fun _ => ?_))
   | exact ih0 _ _
   | exact ih1 _ _
   | exact ih2 _ _
   | exact ih3 _ _
   | exact LeO.none _
   | refine LeO.ite ?_ ?_
   | refine LeO.bind ?_ (fun _ => ?_)
  ·
   intro y0 y1
   unfold astrolaberef06_Shape.j3
   repeat' first
   | (with_reducible exact ih0 _ _)
   | (with_reducible exact ih1 _ _)
   | (with_reducible exact ih2 _ _)
   | (with_reducible exact ih3 _ _)
   | (with_reducible exact LeO.refl _)
   | (with_reducible exact LeO.none _)
   | (with_reducible refine LeO.ite ?_ ?_)
   | (with_reducible refine LeO.bind ?_ (fun _ => ?_))
   | exact ih0 _ _
   | exact ih1 _ _
   | exact ih2 _ _
   | exact ih3 _ _
   | exact LeO.none _
   | refine LeO.ite ?_ ?_
   | refine LeO.bind ?_ (fun _ => ?_)
theorem astrolaberef06_Shape.mono : ∀ a0 k, LeO (astrolaberef06_Shape.f k a0) (astrolaberef06_Shape.f (k + 1) a0) := by
 intro a0 k
 obtain ⟨ih0, ih1, ih2, ih3⟩ := astrolaberef06_Shape.mono_l k
 unfold astrolaberef06_Shape.f
 repeat' first
   | (with_reducible exact ih0 _ _)
   | (with_reducible exact ih1 _ _)
   | (with_reducible exact ih2 _ _)
   | (with_reducible exact ih3 _ _)
   | (with_reducible exact LeO.refl _)
   | (with_reducible exact LeO.none _)
   | (with_reducible refine LeO.ite ?_ ?_)
   | (with_reducible refine LeO.bind ?_ (fun _ => ?_))
   | exact ih0 _ _
   | exact ih1 _ _
   | exact ih2 _ _
   | exact ih3 _ _
   | exact LeO.none _
   | refine LeO.ite ?_ ?_
   | refine LeO.bind ?_ (fun _ => ?_)
set_option maxHeartbeats 8000000 in
set_option maxRecDepth 100000 in
theorem astrolaberef06_Shape.calls (k : Nat) (a0 : Int) (r : ByteArray) (w : World) (h : astrolaberef06_Shape.f k a0 = some r) :
  Calls Try.prog 75 #[.int .i64 a0] w fun e w' => e = .returned (.string r) ∧ Drawn0 w w' := by
 have H : (if a0 ≥ 1 then (astrolaberef06_Shape.j0 k a0 (decide (a0 ≤ 23))) else (astrolaberef06_Shape.j0 k a0 false)) = some r := h
 clear h
 have HC2 := Aside0.mk H
 clear H
 go_enter Try.func75, Try.ntmps75
 go_upto_region 1 with (fail)
 go_cut [8] (fun v8 wc => ∃ (kq : Nat) (x8_1 : Bool), v8 = .bool x8_1 ∧ Aside0 (astrolaberef06_Shape.j0 kq a0 x8_1 = some r) ∧ Aside0 (kq ≤ k) ∧ Drawn0 w wc)
 case first =>
  have H := HC2.out
  clear HC2
  by_cases c3 : a0 ≥ 1
  ·
   rw [if_pos c3] at H
   have c3b0 : decide (1 ≤ a0) = true := decide_eq_true c3
   clear c3
   (first | rw [c3b0] | (simp only [i64_w, i32_w]; rw [c3b0]) | skip)
   have H' := Aside0.mk H
   clear H
   go_wp2
   go_meet
   case rel => exact ⟨_, (decide (a0 ≤ 23)), (by first | rfl | (simp; done) | (simp [*]; done)), H', ⟨by first | omega | exact Nat.le_refl _⟩, by repeat (first | exact Drawn0.refl _ | apply Drawn0.step)⟩
  ·
   rw [if_neg c3] at H
   have c3b0 : decide (1 ≤ a0) = false := decide_eq_false c3
   clear c3
   (first | rw [c3b0] | (simp only [i64_w, i32_w]; rw [c3b0]) | skip)
   have H' := Aside0.mk H
   clear H
   go_wp2
   go_meet
   case rel => exact ⟨_, (false), (by first | rfl | (simp; done) | (simp [*]; done)), H', ⟨by first | omega | exact Nat.le_refl _⟩, by repeat (first | exact Drawn0.refl _ | apply Drawn0.step)⟩
 case rest =>
  clear HC2
  try clear p2
  try clear c3
  try clear c3b0
  obtain ⟨kq, x8_1, rfl, HA, HJ1, ⟨mc1, rfl⟩⟩ := hcut
  cases kq with
  | zero => exact absurd HA.out (by simp [astrolaberef06_Shape.j0])
  | succ kj1 =>
   have H := HA.out
   clear HA
   simp only [astrolaberef06_Shape.j0] at H
   by_cases c4 : x8_1 = true
   ·
    subst c4
    have H1 : (some (⟨#[100, 97, 98, 45]⟩ : ByteArray)) = some r := by rw [if_pos rfl] at H; exact H
    clear H
    have H := H1
    clear H1
    obtain rfl := Option.some.inj H
    go_wp2
    go_ret
    exact ⟨by first | rfl | (simp; done) | (simp [*]; done), by repeat (first | exact Drawn0.refl _ | apply Drawn0.step)⟩
   ·
    replace c4 := Bool.eq_false_iff.mpr c4
    subst c4
    have H1 : (if a0 > 23 then (astrolaberef06_Shape.j1 kj1 a0 (decide (a0 ≤ 30))) else (astrolaberef06_Shape.j1 kj1 a0 false)) = some r := by rw [if_neg (show ¬ (false = true) by decide)] at H; exact H
    clear H
    have H := H1
    clear H1
    have HC5 := Aside0.mk H
    clear H
    go_upto_region 3 with (fail)
    go_cut [14] (fun v14 wc => ∃ (kq : Nat) (x14_4 : Bool), v14 = .bool x14_4 ∧ Aside0 (astrolaberef06_Shape.j1 kq a0 x14_4 = some r) ∧ Aside0 (kq ≤ kj1) ∧ Drawn0 w wc)
    case first =>
     have H := HC5.out
     clear HC5
     by_cases c6 : a0 > 23
     ·
      rw [if_pos c6] at H
      have c6b0 : decide (23 < a0) = true := decide_eq_true c6
      clear c6
      (first | rw [c6b0] | (simp only [i64_w, i32_w]; rw [c6b0]) | skip)
      have H' := Aside0.mk H
      clear H
      go_wp2
      go_meet
      case rel => exact ⟨_, (decide (a0 ≤ 30)), (by first | rfl | (simp; done) | (simp [*]; done)), H', ⟨by have := HJ1.out; first | omega | exact Nat.le_refl _⟩, by repeat (first | exact Drawn0.refl _ | apply Drawn0.step)⟩
     ·
      rw [if_neg c6] at H
      have c6b0 : decide (23 < a0) = false := decide_eq_false c6
      clear c6
      (first | rw [c6b0] | (simp only [i64_w, i32_w]; rw [c6b0]) | skip)
      have H' := Aside0.mk H
      clear H
      go_wp2
      go_meet
      case rel => exact ⟨_, (false), (by first | rfl | (simp; done) | (simp [*]; done)), H', ⟨by have := HJ1.out; first | omega | exact Nat.le_refl _⟩, by repeat (first | exact Drawn0.refl _ | apply Drawn0.step)⟩
    case rest =>
     clear HC5
     try clear c1
     try clear p2
     try clear c3
     try clear c3b0
     try clear c4
     try clear c6
     try clear c6b0
     try clear p2
     obtain ⟨kq, x14_4, rfl, HA, HJ4, ⟨mc4, rfl⟩⟩ := hcut
     cases kq with
     | zero => exact absurd HA.out (by simp [astrolaberef06_Shape.j1])
     | succ kj4 =>
      have H := HA.out
      clear HA
      simp only [astrolaberef06_Shape.j1] at H
      by_cases c7 : x14_4 = true
      ·
       subst c7
       have H1 : (some (⟨#[100, 97, 45, 45]⟩ : ByteArray)) = some r := by rw [if_pos rfl] at H; exact H
       clear H
       have H := H1
       clear H1
       obtain rfl := Option.some.inj H
       go_wp2
       go_ret
       exact ⟨by first | rfl | (simp; done) | (simp [*]; done), by repeat (first | exact Drawn0.refl _ | apply Drawn0.step)⟩
      ·
       replace c7 := Bool.eq_false_iff.mpr c7
       subst c7
       have H1 : (if a0 = 31 then (some (⟨#[100, 97, 45, 115]⟩ : ByteArray)) else (if a0 = 32 then (astrolaberef06_Shape.j2 kj4 a0 (a0 == 32)) else (if a0 = 34 then (astrolaberef06_Shape.j2 kj4 a0 (a0 == 34)) else (if a0 = 35 then (astrolaberef06_Shape.j2 kj4 a0 (a0 == 35)) else (if a0 = 36 then (astrolaberef06_Shape.j2 kj4 a0 (a0 == 36)) else (if a0 = 37 then (astrolaberef06_Shape.j2 kj4 a0 (a0 == 37)) else (astrolaberef06_Shape.j2 kj4 a0 (a0 == 38)))))))) = some r := by rw [if_neg (show ¬ (false = true) by decide)] at H; exact H
       clear H
       have H := H1
       clear H1
       by_cases c8 : a0 = 31
       ·
        rw [if_pos c8] at H
        have c8b0 : (a0 == 31) = true := beq_iff_eq.mpr c8
        have c8b1 : (a0 != 31) = false := bne_eq_false_iff_eq.mpr c8
        clear c8
        obtain rfl := Option.some.inj H
        go_wp2
        go_ret
        exact ⟨by first | rfl | (simp; done) | (simp [*]; done), by repeat (first | exact Drawn0.refl _ | apply Drawn0.step)⟩
       ·
        rw [if_neg c8] at H
        have c8b0 : (a0 == 31) = false := beq_eq_false_iff_ne.mpr c8
        have c8b1 : (a0 != 31) = true := bne_iff_ne.mpr c8
        have HC9 := Aside0.mk H
        clear H
        go_upto_if 18 with (fail)
        go_cut [18] (fun v18 wc => ∃ (kq : Nat) (x18_8 : Bool), v18 = .bool x18_8 ∧ Aside0 (astrolaberef06_Shape.j2 kq a0 x18_8 = some r) ∧ Aside0 (kq ≤ kj4) ∧ Drawn0 w wc)
        case first =>
         have H := HC9.out
         clear HC9
         by_cases c10 : a0 = 32
         ·
          rw [if_pos c10] at H
          have c10b0 : (a0 == 32) = true := beq_iff_eq.mpr c10
          have c10b1 : (a0 != 32) = false := bne_eq_false_iff_eq.mpr c10
          clear c10
          (first | rw [c10b0] | (simp only [i64_w, i32_w]; rw [c10b0]) | skip)
          have H' := Aside0.mk H
          clear H
          go_wp2
          go_meet
          case rel => exact ⟨_, ((a0 == 32)), (by first | rfl | (simp; done) | (simp [*]; done)), H', ⟨by have := HJ1.out; have := HJ4.out; first | omega | exact Nat.le_refl _⟩, by repeat (first | exact Drawn0.refl _ | apply Drawn0.step)⟩
         ·
          rw [if_neg c10] at H
          have c10b0 : (a0 == 32) = false := beq_eq_false_iff_ne.mpr c10
          have c10b1 : (a0 != 32) = true := bne_iff_ne.mpr c10
          (first | rw [c10b0] | (simp only [i64_w, i32_w]; rw [c10b0]) | skip)
          by_cases c11 : a0 = 34
          ·
           rw [if_pos c11] at H
           have c11b0 : (a0 == 34) = true := beq_iff_eq.mpr c11
           have c11b1 : (a0 != 34) = false := bne_eq_false_iff_eq.mpr c11
           clear c11
           have H' := Aside0.mk H
           clear H
           go_wp2
           go_meet
           case rel => exact ⟨_, ((a0 == 34)), (by first | rfl | (simp; done) | (simp [*]; done)), H', ⟨by have := HJ1.out; have := HJ4.out; first | omega | exact Nat.le_refl _⟩, by repeat (first | exact Drawn0.refl _ | apply Drawn0.step)⟩
          ·
           rw [if_neg c11] at H
           have c11b0 : (a0 == 34) = false := beq_eq_false_iff_ne.mpr c11
           have c11b1 : (a0 != 34) = true := bne_iff_ne.mpr c11
           by_cases c12 : a0 = 35
           ·
            rw [if_pos c12] at H
            have c12b0 : (a0 == 35) = true := beq_iff_eq.mpr c12
            have c12b1 : (a0 != 35) = false := bne_eq_false_iff_eq.mpr c12
            clear c12
            have H' := Aside0.mk H
            clear H
            go_wp2
            go_meet
            case rel => exact ⟨_, ((a0 == 35)), (by first | rfl | (simp; done) | (simp [*]; done)), H', ⟨by have := HJ1.out; have := HJ4.out; first | omega | exact Nat.le_refl _⟩, by repeat (first | exact Drawn0.refl _ | apply Drawn0.step)⟩
           ·
            rw [if_neg c12] at H
            have c12b0 : (a0 == 35) = false := beq_eq_false_iff_ne.mpr c12
            have c12b1 : (a0 != 35) = true := bne_iff_ne.mpr c12
            by_cases c13 : a0 = 36
            ·
             rw [if_pos c13] at H
             have c13b0 : (a0 == 36) = true := beq_iff_eq.mpr c13
             have c13b1 : (a0 != 36) = false := bne_eq_false_iff_eq.mpr c13
             clear c13
             have H' := Aside0.mk H
             clear H
             go_wp2
             go_meet
             case rel => exact ⟨_, ((a0 == 36)), (by first | rfl | (simp; done) | (simp [*]; done)), H', ⟨by have := HJ1.out; have := HJ4.out; first | omega | exact Nat.le_refl _⟩, by repeat (first | exact Drawn0.refl _ | apply Drawn0.step)⟩
            ·
             rw [if_neg c13] at H
             have c13b0 : (a0 == 36) = false := beq_eq_false_iff_ne.mpr c13
             have c13b1 : (a0 != 36) = true := bne_iff_ne.mpr c13
             by_cases c14 : a0 = 37
             ·
              rw [if_pos c14] at H
              have c14b0 : (a0 == 37) = true := beq_iff_eq.mpr c14
              have c14b1 : (a0 != 37) = false := bne_eq_false_iff_eq.mpr c14
              clear c14
              have H' := Aside0.mk H
              clear H
              go_wp2
              go_meet
              case rel => exact ⟨_, ((a0 == 37)), (by first | rfl | (simp; done) | (simp [*]; done)), H', ⟨by have := HJ1.out; have := HJ4.out; first | omega | exact Nat.le_refl _⟩, by repeat (first | exact Drawn0.refl _ | apply Drawn0.step)⟩
             ·
              rw [if_neg c14] at H
              have c14b0 : (a0 == 37) = false := beq_eq_false_iff_ne.mpr c14
              have c14b1 : (a0 != 37) = true := bne_iff_ne.mpr c14
              have H' := Aside0.mk H
              clear H
              go_wp2
              go_meet
              case rel => exact ⟨_, ((a0 == 38)), (by first | rfl | (simp; done) | (simp [*]; done)), H', ⟨by have := HJ1.out; have := HJ4.out; first | omega | exact Nat.le_refl _⟩, by repeat (first | exact Drawn0.refl _ | apply Drawn0.step)⟩
        case rest =>
         clear HC9
         try clear c1
         try clear p2
         try clear c3
         try clear c3b0
         try clear c4
         try clear c6
         try clear c6b0
         try clear c7
         try clear c8
         try clear c8b0
         try clear c8b1
         try clear c10
         try clear c10b0
         try clear c10b1
         try clear c11
         try clear c11b0
         try clear c11b1
         try clear c12
         try clear c12b0
         try clear c12b1
         try clear c13
         try clear c13b0
         try clear c13b1
         try clear c14
         try clear c14b0
         try clear c14b1
         try clear p2
         obtain ⟨kq, x18_8, rfl, HA, HJ8, ⟨mc8, rfl⟩⟩ := hcut
         cases kq with
         | zero => exact absurd HA.out (by simp [astrolaberef06_Shape.j2])
         | succ kj8 =>
          have H := HA.out
          clear HA
          simp only [astrolaberef06_Shape.j2] at H
          by_cases c15 : x18_8 = true
          ·
           subst c15
           have H1 : (some (⟨#[100, 97, 45, 117]⟩ : ByteArray)) = some r := by rw [if_pos rfl] at H; exact H
           clear H
           have H := H1
           clear H1
           obtain rfl := Option.some.inj H
           go_wp2
           go_ret
           exact ⟨by first | rfl | (simp; done) | (simp [*]; done), by repeat (first | exact Drawn0.refl _ | apply Drawn0.step)⟩
          ·
           replace c15 := Bool.eq_false_iff.mpr c15
           subst c15
           have H1 : (if a0 = 33 then (astrolaberef06_Shape.j3 kj8 a0 (a0 == 33)) else (astrolaberef06_Shape.j3 kj8 a0 (a0 == 40))) = some r := by rw [if_neg (show ¬ (false = true) by decide)] at H; exact H
           clear H
           have H := H1
           clear H1
           have HC16 := Aside0.mk H
           clear H
           go_upto_if 25 with (fail)
           go_cut [25] (fun v25 wc => ∃ (kq : Nat) (x25_15 : Bool), v25 = .bool x25_15 ∧ Aside0 (astrolaberef06_Shape.j3 kq a0 x25_15 = some r) ∧ Aside0 (kq ≤ kj8) ∧ Drawn0 w wc)
           case first =>
            have H := HC16.out
            clear HC16
            by_cases c17 : a0 = 33
            ·
             rw [if_pos c17] at H
             have c17b0 : (a0 == 33) = true := beq_iff_eq.mpr c17
             have c17b1 : (a0 != 33) = false := bne_eq_false_iff_eq.mpr c17
             clear c17
             (first | rw [c17b0] | (simp only [i64_w, i32_w]; rw [c17b0]) | skip)
             have H' := Aside0.mk H
             clear H
             go_wp2
             go_meet
             case rel => exact ⟨_, ((a0 == 33)), (by first | rfl | (simp; done) | (simp [*]; done)), H', ⟨by have := HJ1.out; have := HJ4.out; have := HJ8.out; first | omega | exact Nat.le_refl _⟩, by repeat (first | exact Drawn0.refl _ | apply Drawn0.step)⟩
            ·
             rw [if_neg c17] at H
             have c17b0 : (a0 == 33) = false := beq_eq_false_iff_ne.mpr c17
             have c17b1 : (a0 != 33) = true := bne_iff_ne.mpr c17
             (first | rw [c17b0] | (simp only [i64_w, i32_w]; rw [c17b0]) | skip)
             have H' := Aside0.mk H
             clear H
             go_wp2
             go_meet
             case rel => exact ⟨_, ((a0 == 40)), (by first | rfl | (simp; done) | (simp [*]; done)), H', ⟨by have := HJ1.out; have := HJ4.out; have := HJ8.out; first | omega | exact Nat.le_refl _⟩, by repeat (first | exact Drawn0.refl _ | apply Drawn0.step)⟩
           case rest =>
            clear HC16
            try clear c1
            try clear p2
            try clear c3
            try clear c3b0
            try clear c4
            try clear c6
            try clear c6b0
            try clear c7
            try clear c8
            try clear c8b0
            try clear c8b1
            try clear c10
            try clear c10b0
            try clear c10b1
            try clear c11
            try clear c11b0
            try clear c11b1
            try clear c12
            try clear c12b0
            try clear c12b1
            try clear c13
            try clear c13b0
            try clear c13b1
            try clear c14
            try clear c14b0
            try clear c14b1
            try clear c15
            try clear c17
            try clear c17b0
            try clear c17b1
            try clear p2
            obtain ⟨kq, x25_15, rfl, HA, HJ15, ⟨mc15, rfl⟩⟩ := hcut
            cases kq with
            | zero => exact absurd HA.out (by simp [astrolaberef06_Shape.j3])
            | succ kj15 =>
             have H := HA.out
             clear HA
             simp only [astrolaberef06_Shape.j3] at H
             by_cases c18 : x25_15 = true
             ·
              subst c18
              have H1 : (some (⟨#[100, 45, 45, 117]⟩ : ByteArray)) = some r := by rw [if_pos rfl] at H; exact H
              clear H
              have H := H1
              clear H1
              obtain rfl := Option.some.inj H
              go_wp2
              go_ret
              exact ⟨by first | rfl | (simp; done) | (simp [*]; done), by repeat (first | exact Drawn0.refl _ | apply Drawn0.step)⟩
             ·
              replace c18 := Bool.eq_false_iff.mpr c18
              subst c18
              have H1 : (if a0 = 39 then (some (⟨#[45, 45, 45, 117]⟩ : ByteArray)) else (if a0 = 41 then (some (⟨#[45, 97, 45, 45]⟩ : ByteArray)) else (if a0 = 42 then (some (⟨#[45, 45, 45, 45]⟩ : ByteArray)) else (if a0 = 43 then (some (⟨#[45, 45, 45, 45]⟩ : ByteArray)) else (some (⟨#[]⟩ : ByteArray)))))) = some r := by rw [if_neg (show ¬ (false = true) by decide)] at H; exact H
              clear H
              have H := H1
              clear H1
              by_cases c19 : a0 = 39
              ·
               rw [if_pos c19] at H
               have c19b0 : (a0 == 39) = true := beq_iff_eq.mpr c19
               have c19b1 : (a0 != 39) = false := bne_eq_false_iff_eq.mpr c19
               clear c19
               obtain rfl := Option.some.inj H
               go_wp2
               go_ret
               exact ⟨by first | rfl | (simp; done) | (simp [*]; done), by repeat (first | exact Drawn0.refl _ | apply Drawn0.step)⟩
              ·
               rw [if_neg c19] at H
               have c19b0 : (a0 == 39) = false := beq_eq_false_iff_ne.mpr c19
               have c19b1 : (a0 != 39) = true := bne_iff_ne.mpr c19
               by_cases c20 : a0 = 41
               ·
                rw [if_pos c20] at H
                have c20b0 : (a0 == 41) = true := beq_iff_eq.mpr c20
                have c20b1 : (a0 != 41) = false := bne_eq_false_iff_eq.mpr c20
                clear c20
                obtain rfl := Option.some.inj H
                go_wp2
                go_ret
                exact ⟨by first | rfl | (simp; done) | (simp [*]; done), by repeat (first | exact Drawn0.refl _ | apply Drawn0.step)⟩
               ·
                rw [if_neg c20] at H
                have c20b0 : (a0 == 41) = false := beq_eq_false_iff_ne.mpr c20
                have c20b1 : (a0 != 41) = true := bne_iff_ne.mpr c20
                by_cases c21 : a0 = 42
                ·
                 rw [if_pos c21] at H
                 have c21b0 : (a0 == 42) = true := beq_iff_eq.mpr c21
                 have c21b1 : (a0 != 42) = false := bne_eq_false_iff_eq.mpr c21
                 clear c21
                 obtain rfl := Option.some.inj H
                 go_wp2
                 go_ret
                 exact ⟨by first | rfl | (simp; done) | (simp [*]; done), by repeat (first | exact Drawn0.refl _ | apply Drawn0.step)⟩
                ·
                 rw [if_neg c21] at H
                 have c21b0 : (a0 == 42) = false := beq_eq_false_iff_ne.mpr c21
                 have c21b1 : (a0 != 42) = true := bne_iff_ne.mpr c21
                 by_cases c22 : a0 = 43
                 ·
                  rw [if_pos c22] at H
                  have c22b0 : (a0 == 43) = true := beq_iff_eq.mpr c22
                  have c22b1 : (a0 != 43) = false := bne_eq_false_iff_eq.mpr c22
                  clear c22
                  obtain rfl := Option.some.inj H
                  go_wp2
                  go_ret
                  exact ⟨by first | rfl | (simp; done) | (simp [*]; done), by repeat (first | exact Drawn0.refl _ | apply Drawn0.step)⟩
                 ·
                  rw [if_neg c22] at H
                  have c22b0 : (a0 == 43) = false := beq_eq_false_iff_ne.mpr c22
                  have c22b1 : (a0 != 43) = true := bne_iff_ne.mpr c22
                  obtain rfl := Option.some.inj H
                  go_wp2
                  go_ret
                  exact ⟨by first | rfl | (simp; done) | (simp [*]; done), by repeat (first | exact Drawn0.refl _ | apply Drawn0.step)⟩

end Go.Proofs.Ytbcmckfceeakhaa.GL
