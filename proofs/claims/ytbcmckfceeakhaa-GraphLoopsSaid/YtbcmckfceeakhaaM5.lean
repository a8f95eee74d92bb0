import Derived.Test.YtbcmckfceeakhaaGLx8
import Derived.Lib.Hide
import Derived.Outline
import Derived.Deep.RegionHeld3
section
set_option linter.unusedVariables false
set_option linter.unusedSimpArgs false
namespace Go.Proofs.Ytbcmckfceeakhaa.Gv
open Go.RowKit Go.Proofs.YtbcmckfceeakhaaW.PrintWords Go.Proofs.YtbcmckfceeakhaaW.PrintLast Go.Proofs.Ytbcmckfceeakhaa.GL

/-- What a back says of a place, in the reference's own order. -/
def inTest (k : Nat) (l0 : List Int) (h : Int) (rs : List Bool) (p : Nat) (b : S40) : Option Bool :=
  if b.f1 = h then
    if rdOf false rs (p : Int) = true then
      if (p : Int) = h then some true else if b.f0 = (p : Int) then some true
      else (astrolaberef18_from.f k l0 (p : Int) h).bind fun t => if 0 ≤ b.f0 ∧ b.f0 < t.length then some (rdOf false t b.f0) else none
    else some false
  else some false
def inAll (k : Nat) (l0 : List Int) (h : Int) (rs : List Bool) (p : Nat) : List S40 → Bool → Option Bool
  | [], acc => some acc
  | b :: bs, acc => (inTest k l0 h rs p b).bind fun t => inAll k l0 h rs p bs (if t = true then true else acc)
def inRows (k : Nat) (l0 : List Int) (h : Int) (rs : List Bool) (bs : List S40) : Nat → List Int → Option (List Int)
  | 0, out => some out
  | d + 1, out => (inAll k l0 h rs (l0.length - (d + 1)) bs false).bind fun t => inRows k l0 h rs bs d (if t = true then out ++ [((l0.length - (d + 1) : Nat) : Int)] else out)
def astrolaberef18_Loop.f (k : Nat) (l0 : List Int) (a1 : Int) : Option (List Int) :=
  if l0.length ≤ 1000000 then (astrolaberef18_Backs.f k l0).bind fun bs => (astrolaberef18_Reached.f k l0).bind fun rs => if rs.length = l0.length then inRows k l0 a1 rs bs l0.length [] else none else none
theorem inTest_mono (l0 : List Int) (h : Int) (rs : List Bool) (p : Nat) (b : S40) (k : Nat) : LeO (inTest k l0 h rs p b) (inTest (k + 1) l0 h rs p b) := by
  unfold inTest
  refine LeO.ite (LeO.ite (LeO.ite (LeO.refl _) (LeO.ite (LeO.refl _) (LeO.bind (astrolaberef18_from.mono _ _ _ _) fun _ => LeO.refl _))) (LeO.refl _)) (LeO.refl _)
theorem inAll_mono (l0 : List Int) (h : Int) (rs : List Bool) (p : Nat) (k : Nat) : ∀ bs acc, LeO (inAll k l0 h rs p bs acc) (inAll (k + 1) l0 h rs p bs acc)
  | [], _ => LeO.refl _
  | b :: bs, acc => LeO.bind (inTest_mono l0 h rs p b k) fun _ => inAll_mono l0 h rs p k bs _
theorem inRows_mono (l0 : List Int) (h : Int) (rs : List Bool) (bs : List S40) (k : Nat) : ∀ d out, LeO (inRows k l0 h rs bs d out) (inRows (k + 1) l0 h rs bs d out)
  | 0, _ => LeO.refl _
  | d + 1, _ => LeO.bind (inAll_mono l0 h rs _ k bs false) fun _ => inRows_mono l0 h rs bs k d _
theorem astrolaberef18_Loop.mono : ∀ a0 a1 k, LeO (astrolaberef18_Loop.f k a0 a1) (astrolaberef18_Loop.f (k + 1) a0 a1) := by
  intro l0 a1 k
  unfold astrolaberef18_Loop.f
  exact LeO.ite (LeO.bind (astrolaberef18_Backs.mono _ _) fun _ => LeO.bind (astrolaberef18_Reached.mono _ _) fun _ => LeO.ite (inRows_mono _ _ _ _ _ _ _) (LeO.refl _)) (LeO.refl _)

/-- What the loops stand on. -/
structure LR (w wr : World) (v5 v6 v7 : Value) (bs : List S40) (rs : List Bool) (out : List Int) : Prop where
  h5 : Kd.R k40 40 wr w.heap.size (fun _ => True) v5 bs
  h6 : Kd.R Kd.bool 4 wr w.heap.size (fun _ => True) v6 rs
  h7 : Kd.R (Kd.int .i64) 3 wr w.heap.size (fun _ => True) v7 out
  below : Below w.heap.size w wr
theorem LR.step {w wr w' : World} {v5 v6 v7 : Value} {bs : List S40} {rs : List Bool} {out : List Int} (h : LR w wr v5 v6 v7 bs rs out) (hb : Below wr.heap.size wr w') : LR w w' v5 v6 v7 bs rs out :=
  ⟨Kd.R_below h.h5 hb, Kd.R_below h.h6 hb, Kd.R_below h.h7 hb, below_step h.below hb⟩
theorem LR.drew {w wr : World} {v5 v6 v7 : Value} {bs : List S40} {rs : List Bool} {out : List Int} (h : LR w wr v5 v6 v7 bs rs out) : LR w wr.drew v5 v6 v7 bs rs out := h.step (below_drew (Below.refl _ _))
theorem LR.drewN {w wr : World} {v5 v6 v7 : Value} {bs : List S40} {rs : List Bool} {out : List Int} (h : LR w wr v5 v6 v7 bs rs out) (q : Nat) : LR w (wr.drewN q) v5 v6 v7 bs rs out := h.step (pw_below_drewN (Below.refl _ _) q)
theorem old_cell {W w' : World} {p : Addr} {v : Value} (hb : Below W.heap.size W w') (h : W.cell? p = some v) : w'.cell? p = some v := (hb.cell (World.block_lt_of_cell? W p h)).trans h
theorem inAll_at {k : Nat} {l0 : List Int} {h : Int} {rs : List Bool} {p : Nat} {bs : List S40} {j : Nat} (hj : j < bs.length) {acc t : Bool} (hi : inAll k l0 h rs p (bs.drop j) acc = some t) :
    ∃ x, inTest k l0 h rs p (rd_T40 bs (j : Int)) = some x ∧ inAll k l0 h rs p (bs.drop (j + 1)) (if x = true then true else acc) = some t := by
  have e : rd_T40 bs (j : Int) = bs[j] := by
    show bs.getD ((j : Int).toNat) _ = _
    rw [Int.toNat_natCast]
    simp [hj]
  rw [List.drop_eq_getElem_cons hj, ← e] at hi
  exact Option.bind_eq_some_iff.1 hi
theorem inRows_at {k : Nat} {l0 : List Int} {h : Int} {rs : List Bool} {bs : List S40} {p : Nat} (hp : p < l0.length) {out r : List Int} (hi : inRows k l0 h rs bs (l0.length - p) out = some r) :
    ∃ t, inAll k l0 h rs p bs false = some t ∧ inRows k l0 h rs bs (l0.length - (p + 1)) (if t = true then out ++ [(p : Int)] else out) = some r := by
  obtain ⟨d, hd⟩ : ∃ d, l0.length - p = d + 1 := ⟨l0.length - p - 1, by omega⟩
  have e : l0.length - (d + 1) = p := by omega
  have e2 : l0.length - (p + 1) = d := by omega
  rw [hd] at hi
  rw [e2]
  have := Option.bind_eq_some_iff.1 hi
  rw [e] at this
  exact this
end Go.Proofs.Ytbcmckfceeakhaa.Gv
end

section
set_option linter.unusedVariables false
set_option linter.unusedSimpArgs false
namespace Go.Proofs.Ytbcmckfceeakhaa.Gv
open Go.RowKit Go.Proofs.YtbcmckfceeakhaaW.PrintWords Go.Proofs.YtbcmckfceeakhaaW.PrintLast Go.Proofs.Ytbcmckfceeakhaa.GL

theorem wpAnyH_mono {P : Program} {md : Region.Mode} {ops : Array Oper} {Q : Exit → Act → World → Prop} {S S' : World → Prop} (h : ∀ w, S' w → S w) : ∀ (fuel : Nat) (listed : Array Bool) (a : Act) (w : World), wpAnyH P md ops Q S' fuel listed a w → wpAnyH P md ops Q S fuel listed a w
  | 0, _, _, _, k => k
  | fuel + 1, _, _, _, k => ⟨k.1, fun i hi => wpOp_mono (fun a' w' k' => ⟨h _ k'.1, wpAnyH_mono h fuel _ a' w' k'.2⟩) (k.2 i hi)⟩
set_option linter.unusedSimpArgs false in
set_option maxRecDepth 100000 in
set_option maxHeartbeats 4000000 in
theorem astrolaberef18_Loop.calls (k : Nat) (A0 : Option Addr) (c0 : Nat) (l0 : List Int) (a1 : Int) (r : List Int) (w : World) (hr0 : Kd.C (Kd.int .u32) w A0 l0.length l0) (hc0 : l0.length ≤ c0) (h : astrolaberef18_Loop.f k l0 a1 = some r) :
    Calls Try.prog 28 #[.slice A0 l0.length c0, .int .i64 a1] w fun e w' => ∃ v0_ : Value, e = .returned (v0_) ∧ Kd.R (Kd.int .i64) 3 w' w.heap.size (fun _ => True) v0_ r ∧ Below w.heap.size w w' := by
  have HR := Aside0.mk hr0
  have HC := Aside0.mk hc0
  unfold astrolaberef18_Loop.f at h
  have hl : l0.length ≤ 1000000 := by
    by_cases c : l0.length ≤ 1000000
    · exact c
    · rw [if_neg c] at h; cases h
  rw [if_pos hl] at h
  obtain ⟨bs, hbs, h⟩ := Option.bind_eq_some_iff.1 h
  obtain ⟨rs, hrs, h⟩ := Option.bind_eq_some_iff.1 h
  have hrl : rs.length = l0.length := by
    by_cases c : rs.length = l0.length
    · exact c
    · rw [if_neg c] at h; cases h
  rw [if_pos hrl] at h
  have HBS := Aside0.mk hbs
  have HRS := Aside0.mk hrs
  have HRL := Aside0.mk hrl
  have H := Aside0.mk h
  clear hbs hrs hrl h hr0 hc0
  go_enter Try.func28, Try.ntmps28
  go_wp2_with (first | (go_at_call 27; refine (astrolaberef18_Backs.calls k _ _ l0 bs _ HR.out HC.out HBS.out).mono ?_; rintro e w1 ⟨v5, rfl, hv5, hb1⟩; have H5 := Aside0.mk hv5; have HB1 := Aside0.mk hb1; clear hv5 hb1) | (go_at_call 24; refine (astrolaberef18_Reached.calls k _ _ l0 rs _ (by repeat (first | exact Kd.C_below HR.out HB1.out | (with_reducible refine Kd.C_alloc ?_ _) | (with_reducible refine Kd.C_drewN ?_ _) | (with_reducible refine Kd.C_drew ?_))) HC.out HRS.out).mono ?_; rintro e w2 ⟨v6, rfl, hv6, hb2⟩; have H6 := Aside0.mk (Kd.R_lower hv6 HB1.out.size); have H5 := Aside0.mk (Kd.R_below H5.out hb2); have HB2 := Aside0.mk (below_step HB1.out hb2); clear hv6 hb2))
  have HL := Aside0.mk (show LR w w2 v5 v6 (.slice none 0 0) bs rs [] from ⟨H5.out, H6.out, Kd.R_nil _ _ _ _ _, HB2.out⟩)
  clear H5 H6 HB1 HB2 HBS HRS
  obtain ⟨A5, c5, rfl⟩ := Kd.R_slice HL.out.h5
  obtain ⟨A6, c6, rfl⟩ := Kd.R_slice HL.out.h6
  go_loopw [7, 8] (fun v7 v8 wr => ∃ (p : Nat) (out : List Int), p ≤ l0.length ∧ v8 = .int .i64 p ∧ Aside0 (inRows k l0 a1 rs bs (l0.length - p) out = some r) ∧ Aside0 (out.length ≤ p) ∧ Aside0 (LR w wr (.slice A5 bs.length c5) (.slice A6 rs.length c6) v7 bs rs out)) (fun _ v8 _ => l0.length - (intOf v8).toNat)
  case atStart => exact ⟨0, [], by omega, rfl, H, ⟨Nat.le_refl _⟩, HL⟩
  case round =>
    clear HL
    obtain ⟨p, out, hp, rfl, HI, HO, HL⟩ := hrel
    obtain ⟨wo, rfl⟩ : ∃ wo : World, wo = wr := ⟨_, rfl⟩
    by_cases hpl : p < l0.length
    · obtain ⟨t, ht, hrest⟩ := inRows_at hpl HI.out
      have HT := Aside0.mk ht
      have HRest := Aside0.mk hrest
      clear ht hrest HI H
      go_wp2_with fail
      have hbm : bs.length ≤ 9223372036854775807 := Kd.C_max (Kd.R_reads' HL.out.h5).2.2
      go_loopw [9, 10] (fun v9 v10 wr => ∃ (j : Nat) (acc : Bool), j ≤ bs.length ∧ v10 = .int .i64 j ∧ v9 = .bool acc ∧ Aside0 (inAll k l0 a1 rs p (bs.drop j) acc = some t) ∧ Aside0 (LR w wr (.slice A5 bs.length c5) (.slice A6 rs.length c6) u7 bs rs out)) (fun _ v10 _ => bs.length - (intOf v10).toNat)
      case atStart => exact ⟨0, false, by omega, rfl, rfl, HT, HL⟩
      case round =>
        clear HL HT
        obtain ⟨j, acc, hj, rfl, rfl, HI, HL⟩ := hrel
        by_cases hjl : j < bs.length
        · obtain ⟨x, hx, hrest⟩ := inAll_at hjl HI.out
          have HRest2 := Aside0.mk hrest
          clear hrest HI
          obtain ⟨ad5, e5, hx0, hx1⟩ := at_T40 (Kd.R_reads' HL.out.h5).2.2 (j : Int) (by omega) (by omega)
          subst e5
          obtain ⟨ad6, e6, hy⟩ := Kd.at_bool (Kd.R_reads' HL.out.h6).2.2 (p : Int) (by omega) (by have := HRL.out; omega)
          subst e6
          rw [Int.toNat_natCast] at hx0 hx1 hy
          obtain ⟨b, hb⟩ : ∃ b, b = rd_T40 bs (j : Int) := ⟨_, rfl⟩
          rw [← hb] at hx hx0 hx1
          have HBB := Lib.hid hb
          clear hb
          have hpr : (p : Int) < (rs.length : Int) := by have := HRL.out; omega
          unfold inTest at hx
          by_cases hbh : b.f1 = a1
          · rw [if_pos hbh] at hx
            by_cases hr : rdOf false rs (p : Int) = true
            · rw [if_pos hr] at hx
              rw [hr] at hy
              by_cases hph : (p : Int) = a1
              · rw [if_pos hph] at hx
                obtain rfl := Option.some.inj hx
                have hbh' : (b.f1 == a1) = true := by simpa using hbh
                have hph' : ((p : Int) == a1) = true := by simpa using hph
                rw [hbh] at hx1
                have hd := beq_self_eq_true a1
                clear hx hbh hph
                go_wp2_with fail
                go_quiet (fail)
                go_wp2_with fail
                go_roundw
                case rel => exact ⟨j + 1, true, by omega, by go_num, rfl, HRest2, ⟨HL.out.drewN _⟩⟩
                case measure => simp [intOf]; omega
              · rw [if_neg hph] at hx
                have hph' : ((p : Int) == a1) = false := by simpa using hph
                have hd := beq_self_eq_true a1
                rw [hbh] at hx1
                by_cases hbp : b.f0 = (p : Int)
                · rw [if_pos hbp] at hx
                  obtain rfl := Option.some.inj hx
                  rw [hbp] at hx0
                  have hd2 := beq_self_eq_true (p : Int)
                  clear hx hbh hph hbp
                  go_wp2_with fail
                  go_quiet (fail)
                  go_wp2_with fail
                  go_roundw
                  case rel => exact ⟨j + 1, true, by omega, by go_num, rfl, HRest2, ⟨HL.out.drewN _⟩⟩
                  case measure => simp [intOf]; omega
                · rw [if_neg hbp] at hx
                  obtain ⟨tf, htf, hx⟩ := Option.bind_eq_some_iff.1 hx
                  have hbt : 0 ≤ b.f0 ∧ b.f0 < tf.length := by
                    by_cases c : 0 ≤ b.f0 ∧ b.f0 < tf.length
                    · exact c
                    · rw [if_neg c] at hx; cases hx
                  rw [if_pos hbt] at hx
                  obtain rfl := Option.some.inj hx
                  have hbp' : (b.f0 == (p : Int)) = false := by simpa using hbp
                  have HTF := Aside0.mk htf
                  have HL0 := HL.out
                  obtain ⟨hb0, hb1⟩ := hbt
                  clear hx hbh hph hbp htf HL
                  go_wp2_with fail
                  refine wp_region_held_drew (S := (fun w' => w'.cell? (ad5.add (j * 2)) = some (.int .i64 b.f0) ∧ w'.cell? ⟨(ad5.add (j * 2)).block, (ad5.add (j * 2)).off + 1, none⟩ = some (.int .i64 a1) ∧ w'.cell? (ad6.add p) = some (.bool true) ∧ LR w w' (.slice (some ad5) bs.length c5) (.slice (some ad6) rs.length c6) u7 bs rs out)) (by kernel_rfl) ⟨hx0, hx1, hy, HL0.drew⟩ (fun hS => ?_)
                  refine wpAnyH_take (i := 0) (oi := ⟨some 27, _, _, _, _, _⟩) (v := ?_) rfl (by kernel_rfl) (by kernel_rfl) (by kernel_rfl) (fun _ _ _ h => h) (Or.inl ⟨by rfl, ?_⟩) (by assumption) ?_
                  (rotate_left; focus (intro w hSw; (try dsimp only at hSw); go_simp; (try (with_reducible rfl))))
                  try simp only [Act.put, List.setIfInBounds_toArray, List.set_cons_zero, List.set_cons_succ]
                  refine wpAnyH_take (i := 1) (oi := ⟨some 28, _, _, _, _, _⟩) (v := ?_) rfl (by kernel_rfl) (by kernel_rfl) (by kernel_rfl) (fun _ _ _ h => h) (Or.inl ⟨by rfl, ?_⟩) (by assumption) ?_
                  (rotate_left; focus (intro w hSw; (try dsimp only at hSw); go_simp; (try (with_reducible rfl))))
                  try simp only [Act.put, List.setIfInBounds_toArray, List.set_cons_zero, List.set_cons_succ]
                  refine wpAnyH_take (i := 2) (oi := ⟨some 29, _, _, _, _, _⟩) (v := ?_) rfl (by kernel_rfl) (by kernel_rfl) (by kernel_rfl) (fun _ _ _ h => h) (Or.inl ⟨by rfl, ?_⟩) (by assumption) ?_
                  (rotate_left; focus (intro w hSw; (try dsimp only at hSw); go_simp; (try (with_reducible rfl))))
                  try simp only [Act.put, List.setIfInBounds_toArray, List.set_cons_zero, List.set_cons_succ]
                  refine wpAnyH_take (i := 3) (oi := ⟨some 30, _, _, _, _, _⟩) (v := ?_) rfl (by kernel_rfl) (by kernel_rfl) (by kernel_rfl) (fun _ _ _ h => h) (Or.inl ⟨by rfl, ?_⟩) (by assumption) ?_
                  (rotate_left; focus (intro w hSw; (try dsimp only at hSw); go_simp; (try (with_reducible rfl))))
                  try simp only [Act.put, List.setIfInBounds_toArray, List.set_cons_zero, List.set_cons_succ]
                  refine wpAnyH_take (i := 4) (oi := ⟨some 31, _, _, _, _, _⟩) (v := ?_) rfl (by kernel_rfl) (by kernel_rfl) (by kernel_rfl) (fun _ _ _ h => h) (Or.inl ⟨by rfl, ?_⟩) (by assumption) ?_
                  (rotate_left; focus (intro w hSw; (try dsimp only at hSw); go_simp; (try (with_reducible rfl))))
                  try simp only [Act.put, List.setIfInBounds_toArray, List.set_cons_zero, List.set_cons_succ]
                  refine wpAnyH_take (i := 5) (oi := ⟨some 32, _, _, _, _, _⟩) (v := ?_) rfl (by kernel_rfl) (by kernel_rfl) (by kernel_rfl) (fun _ _ _ h => h) (Or.inl ⟨by rfl, ?_⟩) (by assumption) ?_
                  (rotate_left; focus (intro w hSw; (try dsimp only at hSw); go_simp; (try (with_reducible rfl))))
                  try simp only [Act.put, List.setIfInBounds_toArray, List.set_cons_zero, List.set_cons_succ]
                  refine wpAnyH_take (i := 6) (oi := ⟨some 33, _, _, _, _, _⟩) (v := ?_) rfl (by kernel_rfl) (by kernel_rfl) (by kernel_rfl) (fun _ _ _ h => h) (Or.inl ⟨by rfl, ?_⟩) (by assumption) ?_
                  (rotate_left; focus (intro w hSw; (try dsimp only at hSw); go_simp; (try (with_reducible rfl))))
                  try simp only [Act.put, List.setIfInBounds_toArray, List.set_cons_zero, List.set_cons_succ]
                  refine wpAnyH_take (i := 7) (oi := ⟨some 34, _, _, _, _, _⟩) (v := ?_) rfl (by kernel_rfl) (by kernel_rfl) (by kernel_rfl) (fun _ _ _ h => h) (Or.inl ⟨by rfl, ?_⟩) (by assumption) ?_
                  (rotate_left; focus (intro w hSw; (try dsimp only at hSw); go_simp; (try (with_reducible rfl))))
                  try simp only [Act.put, List.setIfInBounds_toArray, List.set_cons_zero, List.set_cons_succ]
                  refine wpAnyH_take (i := 8) (oi := ⟨some 35, _, _, _, _, _⟩) (v := ?_) rfl (by kernel_rfl) (by kernel_rfl) (by kernel_rfl) (fun _ _ _ h => h) (Or.inl ⟨by rfl, ?_⟩) (by assumption) ?_
                  (rotate_left; focus (intro w hSw; (try dsimp only at hSw); go_simp; (try (with_reducible rfl))))
                  try simp only [Act.put, List.setIfInBounds_toArray, List.set_cons_zero, List.set_cons_succ]
                  refine wpAnyH_take (i := 9) (oi := ⟨some 36, _, _, _, _, _⟩) (v := ?_) rfl (by kernel_rfl) (by kernel_rfl) (by kernel_rfl) (fun _ _ _ h => h) (Or.inl ⟨by rfl, ?_⟩) (by assumption) ?_
                  (rotate_left; focus (intro w hSw; (try dsimp only at hSw); go_simp; (try (with_reducible rfl))))
                  try simp only [Act.put, List.setIfInBounds_toArray, List.set_cons_zero, List.set_cons_succ]
                  refine wpAnyH_take (i := 10) (oi := ⟨some 37, _, _, _, _, _⟩) (v := ?_) rfl (by kernel_rfl) (by kernel_rfl) (by kernel_rfl) (fun _ _ _ h => h) (Or.inl ⟨by rfl, ?_⟩) (by assumption) ?_
                  (rotate_left; focus (intro w hSw; (try dsimp only at hSw); go_simp; (try (with_reducible rfl))))
                  try simp only [Act.put, List.setIfInBounds_toArray, List.set_cons_zero, List.set_cons_succ]
                  refine wpAnyH_take (i := 11) (oi := ⟨some 38, _, _, _, _, _⟩) (v := ?_) rfl (by kernel_rfl) (by kernel_rfl) (by kernel_rfl) (fun _ _ _ h => h) (Or.inl ⟨by rfl, ?_⟩) (by assumption) ?_
                  (rotate_left; focus (intro w hSw; (try dsimp only at hSw); go_simp; (try (with_reducible rfl))))
                  try simp only [Act.put, List.setIfInBounds_toArray, List.set_cons_zero, List.set_cons_succ]
                  refine wpAnyH_take (i := 12) (oi := ⟨some 39, _, _, _, _, _⟩) (v := ?_) rfl (by kernel_rfl) (by kernel_rfl) (by kernel_rfl) (fun _ _ _ h => h) (Or.inl ⟨by rfl, ?_⟩) (by assumption) ?_
                  (rotate_left; focus (intro w hSw; (try dsimp only at hSw); go_simp; (try (with_reducible rfl))))
                  try simp only [Act.put, List.setIfInBounds_toArray, List.set_cons_zero, List.set_cons_succ]
                  refine wpAnyH_take (i := 13) (oi := ⟨some 40, _, _, _, _, _⟩) (v := ?_) rfl (by kernel_rfl) (by kernel_rfl) (by kernel_rfl) (fun _ _ _ h => h) (Or.inl ⟨by rfl, ?_⟩) (by assumption) ?_
                  (rotate_left; focus (intro w hSw; (try dsimp only at hSw); go_simp; (try (with_reducible rfl))))
                  try simp only [Act.put, List.setIfInBounds_toArray, List.set_cons_zero, List.set_cons_succ]
                  refine wpAnyH_take (i := 14) (oi := ⟨some 41, _, _, _, _, _⟩) (v := ?_) rfl (by kernel_rfl) (by kernel_rfl) (by kernel_rfl) (fun _ _ _ h => h) (Or.inl ⟨by rfl, ?_⟩) (by assumption) ?_
                  (rotate_left; focus (intro w hSw; (try dsimp only at hSw); go_simp; (try (with_reducible rfl))))
                  try simp only [Act.put, List.setIfInBounds_toArray, List.set_cons_zero, List.set_cons_succ]
                  refine wpAnyH_take (i := 15) (oi := ⟨some 42, _, _, _, _, _⟩) (v := ?_) rfl (by kernel_rfl) (by kernel_rfl) (by kernel_rfl) (fun _ _ _ h => h) (Or.inl ⟨by rfl, ?_⟩) (by assumption) ?_
                  (rotate_left; focus (intro w hSw; (try dsimp only at hSw); go_simp; (try (with_reducible rfl))))
                  try simp only [Act.put, List.setIfInBounds_toArray, List.set_cons_zero, List.set_cons_succ]
                  refine wpAnyH_take (i := 16) (oi := ⟨some 43, _, _, _, _, _⟩) (v := ?_) rfl (by kernel_rfl) (by kernel_rfl) (by kernel_rfl) (fun _ _ _ h => h) (Or.inl ⟨by rfl, ?_⟩) (by assumption) ?_
                  (rotate_left; focus (intro w hSw; (try dsimp only at hSw); go_simp; (try (with_reducible rfl))))
                  try simp only [Act.put, List.setIfInBounds_toArray, List.set_cons_zero, List.set_cons_succ]
                  refine wpAnyH_take (i := 17) (oi := ⟨some 44, _, _, _, _, _⟩) (v := ?_) rfl (by kernel_rfl) (by kernel_rfl) (by kernel_rfl) (fun _ _ _ h => h) (Or.inl ⟨by rfl, ?_⟩) (by assumption) ?_
                  (rotate_left; focus (intro w hSw; (try dsimp only at hSw); go_simp; (try (with_reducible rfl))))
                  try simp only [Act.put, List.setIfInBounds_toArray, List.set_cons_zero, List.set_cons_succ]
                  refine wpAnyH_take (i := 18) (oi := ⟨some 45, _, _, _, _, _⟩) (v := ?_) rfl (by kernel_rfl) (by kernel_rfl) (by kernel_rfl) (fun _ _ _ h => h) (Or.inl ⟨by rfl, ?_⟩) (by assumption) ?_
                  (rotate_left; focus (intro w hSw; (try dsimp only at hSw); go_simp; (try (with_reducible rfl))))
                  try simp only [Act.put, List.setIfInBounds_toArray, List.set_cons_zero, List.set_cons_succ]
                  refine wpAnyH_take (i := 19) (oi := ⟨some 46, _, _, _, _, _⟩) (v := ?_) rfl (by kernel_rfl) (by kernel_rfl) (by kernel_rfl) (fun _ _ _ h => h) (Or.inl ⟨by rfl, ?_⟩) (by assumption) ?_
                  (rotate_left; focus (intro w hSw; (try dsimp only at hSw); go_simp; (try (with_reducible rfl))))
                  try simp only [Act.put, List.setIfInBounds_toArray, List.set_cons_zero, List.set_cons_succ]
                  refine wpAnyH_take (i := 20) (oi := ⟨some 47, _, _, _, _, _⟩) (v := ?_) rfl (by kernel_rfl) (by kernel_rfl) (by kernel_rfl) (fun _ _ _ h => h) (Or.inl ⟨by rfl, ?_⟩) (by assumption) ?_
                  (rotate_left; focus (intro w hSw; (try dsimp only at hSw); go_simp; (try (with_reducible rfl))))
                  try simp only [Act.put, List.setIfInBounds_toArray, List.set_cons_zero, List.set_cons_succ]
                  refine wpAnyH_take (i := 21) (oi := ⟨some 48, _, _, _, _, _⟩) (v := ?_) rfl (by kernel_rfl) (by kernel_rfl) (by kernel_rfl) (fun _ _ _ h => h) (Or.inl ⟨by rfl, ?_⟩) (by assumption) ?_
                  (rotate_left; focus (intro w hSw; (try dsimp only at hSw); go_simp; (try (with_reducible rfl))))
                  try simp only [Act.put, List.setIfInBounds_toArray, List.set_cons_zero, List.set_cons_succ]
                  refine wpAnyH_take (i := 22) (oi := ⟨some 49, _, _, _, _, _⟩) (v := ?_) rfl (by kernel_rfl) (by kernel_rfl) (by kernel_rfl) (fun _ _ _ h => h) (Or.inl ⟨by rfl, ?_⟩) (by assumption) ?_
                  (rotate_left; focus (intro w hSw; (try dsimp only at hSw); go_simp; (try (with_reducible rfl))))
                  try simp only [Act.put, List.setIfInBounds_toArray, List.set_cons_zero, List.set_cons_succ]
                  refine wpAnyH_take (i := 23) (oi := ⟨some 50, _, _, _, _, _⟩) (v := ?_) rfl (by kernel_rfl) (by kernel_rfl) (by kernel_rfl) (fun _ _ _ h => h) (Or.inl ⟨by rfl, ?_⟩) (by assumption) ?_
                  (rotate_left; focus (intro w hSw; (try dsimp only at hSw); go_simp; (try (with_reducible rfl))))
                  try simp only [Act.put, List.setIfInBounds_toArray, List.set_cons_zero, List.set_cons_succ]
                  refine wpAnyH_take (i := 24) (oi := ⟨some 51, _, _, _, _, _⟩) (v := ?_) rfl (by kernel_rfl) (by kernel_rfl) (by kernel_rfl) (fun _ _ _ h => h) (Or.inl ⟨by rfl, ?_⟩) (by assumption) ?_
                  (rotate_left; focus (intro w hSw; (try dsimp only at hSw); go_simp; (try (with_reducible rfl))))
                  try simp only [Act.put, List.setIfInBounds_toArray, List.set_cons_zero, List.set_cons_succ]
                  refine wpAnyH_take (i := 25) (oi := ⟨some 52, _, _, _, _, _⟩) (v := ?_) rfl (by kernel_rfl) (by kernel_rfl) (by kernel_rfl) (fun _ _ _ h => h) (Or.inl ⟨by rfl, ?_⟩) (by assumption) ?_
                  (rotate_left; focus (intro w hSw; (try dsimp only at hSw); go_simp; (try (with_reducible rfl))))
                  try simp only [Act.put, List.setIfInBounds_toArray, List.set_cons_zero, List.set_cons_succ]
                  refine wpAnyH_take (i := 26) (oi := ⟨some 53, _, _, _, _, _⟩) (v := ?_) rfl (by kernel_rfl) (by kernel_rfl) (by kernel_rfl) (fun _ _ _ h => h) (Or.inl ⟨by rfl, ?_⟩) (by assumption) ?_
                  (rotate_left; focus (intro w hSw; (try dsimp only at hSw); go_simp; (try (with_reducible rfl))))
                  try simp only [Act.put, List.setIfInBounds_toArray, List.set_cons_zero, List.set_cons_succ]
                  refine wpAnyH_take (i := 27) (oi := ⟨some 54, _, _, _, _, _⟩) (v := ?_) rfl (by kernel_rfl) (by kernel_rfl) (by kernel_rfl) (fun _ _ _ h => h) (Or.inl ⟨by rfl, ?_⟩) (by assumption) ?_
                  (rotate_left; focus (intro w hSw; (try dsimp only at hSw); go_simp; (try (with_reducible rfl))))
                  try simp only [Act.put, List.setIfInBounds_toArray, List.set_cons_zero, List.set_cons_succ]
                  refine wpAnyH_take (i := 28) (oi := ⟨some 55, _, _, _, _, _⟩) (v := ?_) rfl (by kernel_rfl) (by kernel_rfl) (by kernel_rfl) (fun _ _ _ h => h) (Or.inl ⟨by rfl, ?_⟩) (by assumption) ?_
                  (rotate_left; focus (intro w hSw; (try dsimp only at hSw); go_simp; (try (with_reducible rfl))))
                  try simp only [Act.put, List.setIfInBounds_toArray, List.set_cons_zero, List.set_cons_succ]
                  refine wpAnyH_take (i := 29) (oi := ⟨some 56, _, _, _, _, _⟩) (v := ?_) rfl (by kernel_rfl) (by kernel_rfl) (by kernel_rfl) (fun _ _ _ h => h) (Or.inl ⟨by rfl, ?_⟩) (by assumption) ?_
                  (rotate_left; focus (intro w hSw; (try dsimp only at hSw); go_simp; (try (with_reducible rfl))))
                  try simp only [Act.put, List.setIfInBounds_toArray, List.set_cons_zero, List.set_cons_succ]
                  refine wpAnyH_take (i := 31) (oi := ⟨some 58, _, _, _, _, _⟩) (v := ?_) rfl (by kernel_rfl) (by kernel_rfl) (by kernel_rfl) (fun _ _ _ h => h) (Or.inl ⟨by rfl, ?_⟩) (by assumption) ?_
                  (rotate_left; focus (intro w hSw; (try dsimp only at hSw); go_simp; (try (with_reducible rfl))))
                  try simp only [Act.put, List.setIfInBounds_toArray, List.set_cons_zero, List.set_cons_succ]
                  refine wpAnyH_take (i := 32) (oi := ⟨some 59, _, _, _, _, _⟩) (v := ?_) rfl (by kernel_rfl) (by kernel_rfl) (by kernel_rfl) (fun _ _ _ h => h) (Or.inl ⟨by rfl, ?_⟩) (by assumption) ?_
                  (rotate_left; focus (intro w hSw; (try dsimp only at hSw); go_simp; (try (with_reducible rfl))))
                  try simp only [Act.put, List.setIfInBounds_toArray, List.set_cons_zero, List.set_cons_succ]
                  refine wpAnyH_take (i := 33) (oi := ⟨some 60, _, _, _, _, _⟩) (v := ?_) rfl (by kernel_rfl) (by kernel_rfl) (by kernel_rfl) (fun _ _ _ h => h) (Or.inl ⟨by rfl, ?_⟩) (by assumption) ?_
                  (rotate_left; focus (intro w hSw; (try dsimp only at hSw); go_simp; (try (with_reducible rfl))))
                  try simp only [Act.put, List.setIfInBounds_toArray, List.set_cons_zero, List.set_cons_succ]
                  refine wpAnyH_take (i := 34) (oi := ⟨some 61, _, _, _, _, _⟩) (v := ?_) rfl (by kernel_rfl) (by kernel_rfl) (by kernel_rfl) (fun _ _ _ h => h) (Or.inl ⟨by rfl, ?_⟩) (by assumption) ?_
                  (rotate_left; focus (intro w hSw; (try dsimp only at hSw); go_simp; (try (with_reducible rfl))))
                  try simp only [Act.put, List.setIfInBounds_toArray, List.set_cons_zero, List.set_cons_succ]
                  refine wpAnyH_take (i := 35) (oi := ⟨some 62, _, _, _, _, _⟩) (v := ?_) rfl (by kernel_rfl) (by kernel_rfl) (by kernel_rfl) (fun _ _ _ h => h) (Or.inl ⟨by rfl, ?_⟩) (by assumption) ?_
                  (rotate_left; focus (intro w hSw; (try dsimp only at hSw); go_simp; (try (with_reducible rfl))))
                  try simp only [Act.put, List.setIfInBounds_toArray, List.set_cons_zero, List.set_cons_succ]
                  refine wpAnyH_ready (rs := [30]) (by kernel_rfl) (by simp) (AllReadyH.cons (o := ⟨some 57, _, _, _, _, _⟩) rfl (fun K hK => ?_) AllReadyH.nil)
                  go_simp
                  refine (astrolaberef18_from.calls k _ _ l0 (p : Int) a1 tf _ (Kd.C_below HR.out HL0.drew.below) HC.out HTF.out).mono ?_
                  rintro e w5 ⟨vt, rfl, ht, hb⟩
                  obtain ⟨At, ct, rfl⟩ := Kd.R_slice ht
                  obtain ⟨adt, et, hz⟩ := Kd.at_bool (Kd.R_reads' ht).2.2 b.f0 hb0 hb1
                  subst et
                  refine hK.out _ _ ⟨old_cell hb hx0, old_cell hb hx1, old_cell hb hy, LR.step HL0.drew hb⟩ (fun hS3 => ?_)
                  try simp only [Act.put, List.setIfInBounds_toArray, List.set_cons_zero, List.set_cons_succ]
                  refine wpAnyH_mono (S' := fun w' => (w'.cell? (ad5.add (j * 2)) = some (.int .i64 b.f0) ∧ w'.cell? ⟨(ad5.add (j * 2)).block, (ad5.add (j * 2)).off + 1, none⟩ = some (.int .i64 a1) ∧ w'.cell? (ad6.add p) = some (.bool true) ∧ LR w w' (.slice (some ad5) bs.length c5) (.slice (some ad6) rs.length c6) u7 bs rs out) ∧ w'.cell? (adt.add b.f0.toNat) = some (.bool (rdOf false tf b.f0))) (fun _ h => h.1) _ _ _ _ ?_
                  have hS4 := And.intro hS3 hz
                  clear hS hS3 hK K
                  refine wpAnyH_take (i := 36) (oi := ⟨some 63, _, _, _, _, _⟩) (v := ?_) rfl (by kernel_rfl) (by kernel_rfl) (by kernel_rfl) (fun _ _ _ h => h) (Or.inl ⟨by rfl, ?_⟩) (by assumption) ?_
                  (rotate_left; focus (intro w hSw; (try dsimp only at hSw); go_simp; (try (with_reducible rfl))))
                  try simp only [Act.put, List.setIfInBounds_toArray, List.set_cons_zero, List.set_cons_succ]
                  refine wpAnyH_take (i := 37) (oi := ⟨some 64, _, _, _, _, _⟩) (v := ?_) rfl (by kernel_rfl) (by kernel_rfl) (by kernel_rfl) (fun _ _ _ h => h) (Or.inl ⟨by rfl, ?_⟩) (by assumption) ?_
                  (rotate_left; focus (intro w hSw; (try dsimp only at hSw); go_simp; (try (with_reducible rfl))))
                  try simp only [Act.put, List.setIfInBounds_toArray, List.set_cons_zero, List.set_cons_succ]
                  refine wpAnyH_take (i := 38) (oi := ⟨some 65, _, _, _, _, _⟩) (v := ?_) rfl (by kernel_rfl) (by kernel_rfl) (by kernel_rfl) (fun _ _ _ h => h) (Or.inl ⟨by rfl, ?_⟩) (by assumption) ?_
                  (rotate_left; focus (intro w hSw; (try dsimp only at hSw); go_simp; (try (with_reducible rfl))))
                  try simp only [Act.put, List.setIfInBounds_toArray, List.set_cons_zero, List.set_cons_succ]
                  refine wpAnyH_take (i := 39) (oi := ⟨some 66, _, _, _, _, _⟩) (v := ?_) rfl (by kernel_rfl) (by kernel_rfl) (by kernel_rfl) (fun _ _ _ h => h) (Or.inl ⟨by rfl, ?_⟩) (by assumption) ?_
                  (rotate_left; focus (intro w hSw; (try dsimp only at hSw); go_simp; (try (with_reducible rfl))))
                  try simp only [Act.put, List.setIfInBounds_toArray, List.set_cons_zero, List.set_cons_succ]
                  refine wpAnyH_done (by kernel_rfl) ?_ _
                  have HL5 := Aside0.mk (LR.step HL0.drew hb)
                  clear hS4 hz hx0 hx1 hy HL0 hb ht
                  revert HRest2
                  generalize rdOf false tf b.f0 = x5
                  intro HRest2
                  cases x5
                  · go_wp2_with fail
                    go_roundw
                    case rel => exact ⟨j + 1, acc, by omega, by go_num, rfl, HRest2, HL5⟩
                    case measure => simp [intOf]; omega
                  · go_wp2_with fail
                    go_roundw
                    case rel => exact ⟨j + 1, true, by omega, by go_num, rfl, HRest2, HL5⟩
                    case measure => simp [intOf]; omega
            · rw [if_neg hr] at hx
              obtain rfl := Option.some.inj hx
              have hr' : rdOf false rs (p : Int) = false := by simpa using hr
              rw [hr'] at hy
              rw [hbh] at hx1
              have hd := beq_self_eq_true a1
              clear hx hbh hr hr'
              go_wp2_with fail
              go_quiet (fail)
              go_wp2_with fail
              go_roundw
              case rel => exact ⟨j + 1, acc, by omega, by go_num, rfl, HRest2, ⟨HL.out.drewN _⟩⟩
              case measure => simp [intOf]; omega
          · rw [if_neg hbh] at hx
            obtain rfl := Option.some.inj hx
            have hbh' : (b.f1 == a1) = false := by simpa using hbh
            clear hx hbh
            go_wp2_with fail
            go_quiet (fail)
            go_wp2_with fail
            go_roundw
            case rel => exact ⟨j + 1, acc, by omega, by go_num, rfl, HRest2, ⟨HL.out.drewN _⟩⟩
            case measure => simp [intOf]; omega
        · obtain rfl : j = bs.length := by omega
          have htt : acc = t := by
            have := HI.out
            rw [List.drop_length] at this
            exact Option.some.inj this
          subst htt
          clear HI
          cases acc
          · go_wp2_with fail
            go_roundw
            case rel => exact ⟨p + 1, out, by omega, by go_num, HRest, ⟨by have := HO.out; omega⟩, HL⟩
            case measure => simp [intOf]; omega
          · go_wp2_with (first | ((with_reducible refine gate_builtin (b := .append) (xs := #[.tmp 68, .tmp 70]) rfl ?_); at_builtin; refine Kd.R_append (Kd.int .i64) (w0 := w) w.heap.size rfl (.tmp 68) (.tmp 70) 25 3 (.int .i64 0) 8 rfl Try.underlying25 info3 rfl (by decide) (by omega) _ out (p : Int) [.int .i64 (p : Int)] (fun _ => True) (fun _ => False) rfl rfl rfl (fun _ hk => hk.elim) (fun _ _ => trivial) HL.out.h7 HL.out.below HL.out.below.size ?aL ?_; (case aL => have := HO.out; omega); intro v200 w12 ho hb hg hat; have HL2 := Aside0.mk (show LR w w12 (.slice A5 bs.length c5) (.slice A6 rs.length c6) v200 bs rs (out ++ [(p : Int)]) from ⟨Kd.R_over' HL.out.h5 (Kd.R_typed HL.out.h7) (by decide) hg, Kd.R_over' HL.out.h6 (Kd.R_typed HL.out.h7) (by decide) hg, ho, hb⟩); clear ho hb hg hat))
            go_roundw
            case rel => exact ⟨p + 1, _, by omega, by go_num, HRest, ⟨by have := HO.out; simp; omega⟩, HL2⟩
            case measure => simp [intOf]; omega
    · obtain rfl : p = l0.length := by omega
      have hrr : out = r := by
        have := HI.out
        rw [Nat.sub_self] at this
        exact Option.some.inj this
      subst hrr
      go_wp2
      go_ret
      exact ⟨_, rfl, HL.out.h7, HL.out.below⟩
end Go.Proofs.Ytbcmckfceeakhaa.Gv
end
