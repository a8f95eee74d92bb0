/- GraphLoops: for any code of at most 30 words, each loop of graph's Backs holds its head, which stands ahead of all of it, and the place of its back; where there is a back the code is cyclic; and the page's example stands. No condition beyond the statement's own. -/
import Derived.Test.YtbcmckfceeakhaaGLy3
import Derived.Test.YtbcmckfceeakhaaM6
namespace Go.Proofs.Ytbcmckfceeakhaa.Pure
open Go.RowKit Go.Proofs.Ytbcmckfceeakhaa.GL Go.Proofs.YtbcmckfceeakhaaW.PrintWords Go.Proofs.YtbcmckfceeakhaaW.PrintLast Go.Proofs.Ytbcmckfceeakhaa.Gv

theorem loopL_mem {l : List Int} {h : Int} {x : Nat} (hx : x < l.length) : (x : Int) ∈ loopL l h ↔ loopP l h x := by
  unfold loopL
  rw [List.mem_map]
  constructor
  · rintro ⟨y, hy, e⟩
    obtain ⟨_, h2⟩ := List.mem_filter.1 hy
    have : y = x := by omega
    rw [← this]; simpa using h2
  · exact fun h => ⟨x, List.mem_filter.2 ⟨List.mem_range.2 hx, by simpa using h⟩, rfl⟩
theorem loopL_ahead {l : List Int} (hok : okW l) {h : Int} {y : Int} (hy : y ∈ loopL l h) : aheadB l h y = true := by
  unfold loopL at hy
  obtain ⟨x, hx, rfl⟩ := List.mem_map.1 hy
  obtain ⟨h1, h2⟩ := List.mem_filter.1 hx
  have hxl := List.mem_range.1 h1
  have hp : loopP l h x := by simpa using h2
  obtain ⟨b, hb, rfl, hi⟩ := hp
  obtain ⟨p, hp, hf0, hf1, ha⟩ := backs_mem hb
  have hlt := nextL_lt hok hf1
  refine aheadB_iff.2 ⟨⟨hlt.1, hlt.2, by omega, by omega⟩, ?_⟩
  rw [Int.toNat_natCast]
  refine ⟨hi.1, AG.dom_loop (b := b.f0.toNat) ?_ hi⟩
  rw [hf0, Int.toNat_natCast]
  exact ha.2
theorem loopL_small (l : List Int) (h : Int) : (loopL l h).length ≤ l.length := by
  unfold loopL
  rw [List.length_map]
  exact Nat.le_trans (List.length_filter_le _ _) (by simp)
theorem l1_ev {l : List Int} (hok : okW l) (bs : List S40) (i : Nat) (hi : i < bs.length) (b : S40) (hb : b = rd_T40 bs (i : Int)) (hbl : bs.length ≤ 1000000) (d : Nat) : ∀ (j : Nat) (x6 x7 : Bool), (loopL l b.f1).length - j = d → j ≤ (loopL l b.f1).length →
    (x6 = true ∨ b.f1 ∈ (loopL l b.f1).drop j) → (x7 = true ∨ b.f0 ∈ (loopL l b.f1).drop j) →
    ∀ r, Ev (fun k => loopsLaw.l0 k l bs ((i + 1 : Nat) : Int)) r → Ev (fun k => loopsLaw.l1 k l bs i (loopL l b.f1) x6 x7 j) r := by
  have hsm := loopL_small l b.f1
  have hlen := hok.1
  have hwi := w64 (i := (i : Int)) (by omega) (by omega)
  induction d with
  | zero =>
    intro j x6 x7 hd hj h6 h7 r hr
    have e6 : x6 = true := h6.elim id fun h => by rw [List.drop_eq_nil_of_le (by omega)] at h; cases h
    have e7 : x7 = true := h7.elim id fun h => by rw [List.drop_eq_nil_of_le (by omega)] at h; cases h
    refine Ev.step (fun k => ?_) hr
    simp only [loopsLaw.l1]
    rw [if_neg (by omega), if_pos e6, if_pos e7, hwi]
    rfl
  | succ d ih =>
    intro j x6 x7 hd hj h6 h7 r hr
    have hjl : j < (loopL l b.f1).length := by omega
    have e := rd_at hjl
    have hdr : (loopL l b.f1).drop j = (loopL l b.f1)[j] :: (loopL l b.f1).drop (j + 1) := List.drop_eq_getElem_cons hjl
    have hmem : (loopL l b.f1)[j] ∈ loopL l b.f1 := List.getElem_mem hjl
    have hw := w64 (i := (j : Int)) (by omega) (by omega)
    generalize (loopL l b.f1)[j] = y at *
    rw [hdr] at h6 h7
    have ha : graph_Ahead.f l b.f1 y = some true := by unfold graph_Ahead.f; rw [if_pos hok, loopL_ahead hok hmem]
    have n6 : (if x6 = true then true else y == b.f1) = true ∨ b.f1 ∈ (loopL l b.f1).drop (j + 1) := by
      rcases h6 with h | h
      · exact .inl (by rw [if_pos h])
      · rcases List.mem_cons.1 h with h | h
        · exact .inl (by split <;> simp [h])
        · exact .inr h
    have n7 : (if x7 = true then true else y == b.f0) = true ∨ b.f0 ∈ (loopL l b.f1).drop (j + 1) := by
      rcases h7 with h | h
      · exact .inl (by rw [if_pos h])
      · rcases List.mem_cons.1 h with h | h
        · exact .inl (by split <;> simp [h])
        · exact .inr h
    refine Ev.step (fun k => ?_) (ih (j + 1) _ _ (by omega) (by omega) n6 n7 r hr)
    simp only [loopsLaw.l1]
    rw [← hb]
    cases x6 <;> cases x7
    · rw [if_pos (by omega), if_neg (by decide), if_pos (by omega), if_pos (by omega), if_pos (by omega), if_neg (by decide), e, ha, hw]
      rfl
    · rw [if_pos (by omega), if_neg (by decide), if_pos (by omega), if_pos (by omega), if_pos (by omega), if_pos rfl, e, ha, hw]
      rfl
    · rw [if_pos (by omega), if_pos rfl, if_neg (by decide), if_pos (by omega), if_pos (by omega), if_pos (by omega), e, ha, hw]
      rfl
    · rw [if_pos (by omega), if_pos rfl, if_pos rfl, if_pos (by omega), if_pos (by omega), if_pos (by omega), e, ha, hw]
      rfl
open Classical in
theorem l0_ev {l : List Int} (hok : okW l) (d : Nat) : ∀ i : Nat, (backsTo l l.length).length - i = d → i ≤ (backsTo l l.length).length → Ev (fun k => loopsLaw.l0 k l (backsTo l l.length) i) true := by
  have hlen := hok.1
  have hbl := backsTo_len l l.length
  induction d with
  | zero =>
    intro i hd hi
    refine Ev.step (f := fun k => if ((backsTo l l.length).length : Int) = 0 then ((astrolabelaw18_awake.f k).bind fun t252 => (some t252)) else ((graph_Cyclic.f l).bind fun t253 => (if t253 = true then ((astrolabelaw18_awake.f k).bind fun t254 => (some t254)) else (some false)))) (fun k => ?_) ?_
    · simp only [loopsLaw.l0]
      rw [if_neg (by omega)]
    · by_cases h0 : ((backsTo l l.length).length : Int) = 0
      · simp only [if_pos h0]
        exact Ev.bind awake_ev (Ev.now _)
      · simp only [if_neg h0]
        have hpos : 0 < (backsTo l l.length).length := by omega
        have hb := List.getElem_mem hpos
        obtain ⟨p, hp, hf0, hf1, ha⟩ := backs_mem hb
        have hlt := nextL_lt hok hf1
        have hc : 0 < l.length ∧ AG.Cyc (nxL l) := by
          refine ⟨by omega, AG.cyc_of_back (b := p) (h := ((backsTo l l.length)[0]).f1.toNat) ha.1 ?_ ha.2⟩
          rw [nxL_eq hp]
          exact List.mem_map.2 ⟨_, hf1, rfl⟩
        have : graph_Cyclic.f l = some true := by unfold graph_Cyclic.f; rw [if_pos hok, decide_eq_true hc]
        simp only [this, Option.bind_some, if_true]
        exact Ev.bind awake_ev (Ev.now _)
  | succ d ih =>
    intro i hd hi
    have hil : i < (backsTo l l.length).length := by omega
    have hb := List.getElem_mem hil
    have e : rd_T40 (backsTo l l.length) (i : Int) = (backsTo l l.length)[i] := by
      show (backsTo l l.length).getD ((i : Int).toNat) _ = _
      rw [Int.toNat_natCast]; simp [hil]
    obtain ⟨b, hbe⟩ : ∃ b, b = (backsTo l l.length)[i] := ⟨_, rfl⟩
    rw [← hbe] at hb e
    obtain ⟨p, hp, hf0, hf1, ha⟩ := backs_mem hb
    have hlt := nextL_lt hok hf1
    have hl : graph_Loop.f l b.f1 = some (loopL l b.f1) := by unfold graph_Loop.f; rw [if_pos hok]
    have m1 : b.f1 ∈ loopL l b.f1 := by
      have := (loopL_mem (l := l) (h := b.f1) (x := b.f1.toNat) (by omega)).2 ⟨b, hb, rfl, AG.dom_reached ha.1 ha.2, .inl rfl⟩
      rwa [Int.toNat_of_nonneg hlt.1] at this
    have m0 : b.f0 ∈ loopL l b.f1 := by
      have := (loopL_mem (l := l) (h := b.f1) (x := p) hp).2 ⟨b, hb, rfl, ha.1, .inr (.inl (by rw [hf0, Int.toNat_natCast]))⟩
      rwa [hf0]
    have h1 := l1_ev hok (backsTo l l.length) i hil b e.symm (by omega) _ 0 false false rfl (Nat.zero_le _) (.inr (by rw [List.drop_zero]; exact m1)) (.inr (by rw [List.drop_zero]; exact m0)) true (ih (i + 1) (by omega) (by omega))
    refine Ev.step (fun k => ?_) h1
    simp only [loopsLaw.l0]
    rw [if_pos (by omega), if_pos (by omega), e, hl]
    rfl
theorem wf_ok {l : List Int} (h : ∀ x ∈ l, (Lit.int .u32 x).wf = true) (hl : l.length ≤ 64) : okW l :=
  ⟨hl, fun x hx => by have := h x hx; simp [Lit.wf, IntKind.min, IntKind.max, IntKind.bits, IntKind.signed] at this; omega⟩
theorem GraphLoops : loopsLaw.Pure := by
  intro l _ _ hw
  refine Ev.rounds (g := fun k => loopsLaw.f k l) ?_
  unfold loopsLaw.f
  by_cases hl : (l.length : Int) > 30
  · simp only [if_pos hl]
    exact Ev.bind awake_ev (Ev.now _)
  · have hok := wf_ok hw (by omega)
    simp only [if_neg hl]
    have bk : graph_Backs.f l = some (backsTo l l.length) := by unfold graph_Backs.f; rw [if_pos hok]
    simp only [bk, Option.bind_some]
    exact l0_ev hok _ 0 rfl (Nat.zero_le _)

end Go.Proofs.Ytbcmckfceeakhaa.Pure
