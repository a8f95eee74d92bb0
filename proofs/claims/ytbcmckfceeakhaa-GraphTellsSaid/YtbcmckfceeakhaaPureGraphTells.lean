/- GraphTells: for any code, any two numbers, the graph package's Next, Reached, Ahead, Backs, Loop and Cyclic answer as the reference does, and the page's example stands; code longer than 26 words asks for the example alone. No condition beyond the statement's own. -/
import Derived.Test.YtbcmckfceeakhaaGLx9
import Derived.Test.YtbcmckfceeakhaaM6
namespace Go.Proofs.Ytbcmckfceeakhaa.Pure
open Go.RowKit Go.Proofs.Ytbcmckfceeakhaa.GL Go.Proofs.YtbcmckfceeakhaaW.PrintWords Go.Proofs.YtbcmckfceeakhaaW.PrintLast Go.Proofs.Ytbcmckfceeakhaa.Gv

theorem bools_run (l : List Bool) (hl : l.length ≤ 1000000) (d : Nat) : ∀ j : Nat, l.length - j = d → Ev (fun k => astrolaberef18_Bools.l0 k l l j) true := by
  induction d with
  | zero =>
    intro j hd
    refine Ev.step (f := fun _ => some true) (fun k => ?_) (Ev.now _)
    simp only [astrolaberef18_Bools.l0]
    rw [if_neg (by omega)]
  | succ d ih =>
    intro j hd
    have hw := w64 (i := (j : Int)) (by omega) (by omega)
    refine Ev.step (f := fun k => astrolaberef18_Bools.l0 k l l ((j + 1 : Nat) : Int)) (fun k => ?_) (ih (j + 1) (by omega))
    simp only [astrolaberef18_Bools.l0]
    rw [if_pos (by omega), if_pos (by omega), if_pos (by omega), hw]
    simp
theorem bools_refl (l : List Bool) (hl : l.length ≤ 1000000) : Ev (fun k => astrolaberef18_Bools.f k l l) true := by
  unfold astrolaberef18_Bools.f
  simp only [if_true]
  exact bools_run l hl _ 0 rfl
theorem loopL_len (l : List Int) (h : Int) : (loopL l h).length ≤ l.length := by
  unfold loopL
  rw [List.length_map]
  exact Nat.le_trans (List.length_filter_le _ _) (by simp)
theorem tells_ev (l : List Int) (a b : Int) (hok : l.length ≤ 26 → okW l) : Ev (fun k => astrolabelaw18_GraphTells.f k l a b) true := by
  unfold astrolabelaw18_GraphTells.f
  by_cases hl : (l.length : Int) > 26
  · simp only [if_pos hl]
    exact Ev.bind awake_ev (Ev.now _)
  · have ok := hok (by omega)
    have hlen := ok.1
    simp only [if_neg hl]
    have n : graph_Next.f l a = some (nextL l a) := by unfold graph_Next.f; rw [if_pos ok]
    have r : graph_Reached.f l = some (reachL l) := by unfold graph_Reached.f; rw [if_pos ok]
    have h : graph_Ahead.f l a b = some (aheadB l a b) := by unfold graph_Ahead.f; rw [if_pos ok]
    have bk : graph_Backs.f l = some (backsTo l l.length) := by unfold graph_Backs.f; rw [if_pos ok]
    have lp : graph_Loop.f l a = some (loopL l a) := by unfold graph_Loop.f; rw [if_pos ok]
    obtain ⟨cy, hcy⟩ : ∃ cy, graph_Cyclic.f l = some cy ∧ Ev (fun k => astrolaberef18_Cyclic.f k l) cy := by
      refine ⟨_, ?_, cyclic_ref ok⟩
      unfold graph_Cyclic.f; rw [if_pos ok]
    have hb := backsTo_len l l.length
    have hll := loopL_len l a
    have hnl := nextL_len l a
    simp only [n, r, h, Option.bind_some]
    refine Ev.bind (ev_next l a ok) ?_
    refine Ev.bind (same_refl _ (by omega)) ?_
    simp only [if_true]
    refine Ev.bind (reached_ref ok) ?_
    refine Ev.bind (bools_refl _ (by rw [reachL_len]; omega)) ?_
    simp only [if_true]
    refine Ev.bind (ahead_ref ok a b) ?_
    simp only [bne_self_eq_false]
    refine Ev.step (g := fun k => astrolabelaw18_GraphTells.j0 k l a false) (f := fun k => (graph_Backs.f l).bind fun t231 => ((astrolaberef18_Backs.f k l).bind fun t234 => ((astrolaberef18_Fixes.f k t231 t234).bind fun t237 => (if t237 = true then ((graph_Loop.f l a).bind fun t238 => ((astrolaberef18_Loop.f k l a).bind fun t241 => ((astrolaberef18_Same.f k t238 t241).bind fun t244 => (if t244 = true then ((graph_Cyclic.f l).bind fun t245 => ((astrolaberef18_Cyclic.f k l).bind fun t246 => (if (t245 == t246) = true then ((astrolabelaw18_awake.f k).bind fun t247 => (some t247)) else (some false)))) else (some false))))) else (some false))))) (fun k => ?_) ?_
    · simp only [astrolabelaw18_GraphTells.j0]
      rw [if_neg (by decide)]
    · simp only [bk, lp, hcy.1, Option.bind_some]
      refine Ev.bind (backs_ref ok) ?_
      refine Ev.bind (fixes_refl _ (by omega)) ?_
      simp only [if_true]
      refine Ev.bind (loop_ref ok a) ?_
      refine Ev.bind (same_refl _ (by omega)) ?_
      simp only [if_true]
      refine Ev.bind hcy.2 ?_
      simp only [beq_self_eq_true, if_true]
      exact Ev.bind awake_ev (Ev.now _)
theorem ok_of_wf {l : List Int} (h : ∀ x ∈ l, (Lit.int .u32 x).wf = true) (hl : l.length ≤ 64) : okW l :=
  ⟨hl, fun x hx => by have := h x hx; simp [Lit.wf, IntKind.min, IntKind.max, IntKind.bits, IntKind.signed] at this; omega⟩
theorem GraphTells : astrolabelaw18_GraphTells.Pure := by
  intro l a b _ _ hw _ _
  exact Ev.rounds (tells_ev l a b fun hl => ok_of_wf hw (by omega))

end Go.Proofs.Ytbcmckfceeakhaa.Pure
