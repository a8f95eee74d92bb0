import Derived.Test.YtbcmckfceeakhaaM2
import Derived.BigRegion
import Derived.Test.YtbcmckfceeakhaaM1
import Derived.Laws.Bits64b
import Derived.Laws.EntriesVeiled
import Derived.Test.YtbcmckfceeakhaaGLx0
import Derived.Shelf.Abstract
section
set_option linter.unusedVariables false
set_option linter.unusedSimpArgs false
namespace Go.Proofs.Ytbcmckfceeakhaa.Gv
open Go.RowKit Go.Proofs.YtbcmckfceeakhaaW.PrintWords

/-! Rows of rows: 2n rows of the call's own, behind two headers of n places each. -/
def up {α : Type} (f : Nat → α) (i : Nat) (x : α) : Nat → α := fun j => if j = i then x else f j
theorem up_same {α : Type} (f : Nat → α) (i : Nat) (x : α) : up f i x i = x := by simp [up]
theorem up_other {α : Type} (f : Nat → α) {i j : Nat} (x : α) (h : j ≠ i) : up f i x j = f j := by simp [up, h]
def hdr (n s : Nat) (rv : Nat → Value) : Array Value := ((List.range n).map fun p => rv (s + p)).toArray
theorem hdr_get {n s p : Nat} (rv : Nat → Value) (h : p < n) : (hdr n s rv)[p]? = some (rv (s + p)) := by simp [hdr, h]
theorem hdr_set {n s p : Nat} (rv : Nat → Value) (v : Value) : (hdr n s rv).setIfInBounds p v = hdr n s (up rv (s + p) v) := by
  apply Array.ext_getElem?
  intro j
  simp only [Array.getElem?_setIfInBounds]
  by_cases hj : j < n
  · rw [hdr_get _ hj, hdr_get _ hj]
    by_cases e : p = j
    · subst e; rw [if_pos rfl, up_same]; simp [hdr, hj]
    · rw [if_neg e, up_other]; omega
  · have h1 : (hdr n s rv)[j]? = none := by simp [hdr]; omega
    have h2 : (hdr n s (up rv (s + p) v))[j]? = none := by simp [hdr]; omega
    rw [h1, h2]
    by_cases e : p = j
    · subst e; simp [hdr, hj]
    · simp [e]
theorem hdr_far {n s i : Nat} (rv : Nat → Value) (v : Value) (h : i < s ∨ s + n ≤ i) : hdr n s (up rv i v) = hdr n s rv := by
  unfold hdr
  congr 1
  apply List.map_congr_left
  intro p hp
  rw [List.mem_range] at hp
  exact up_other _ _ (by omega)

structure WebOwn (W : World) (B n G1 G2 : Nat) (rv : Nat → Value) (ll : Nat → List Int) : Prop where
  h1 : W.heap[G1]? = some (.cells (hdr n 0 rv) 25 (0, 0))
  h2 : W.heap[G2]? = some (.cells (hdr n n rv) 25 (0, 0))
  ne : G1 ≠ G2
  g1 : B ≤ G1
  g2 : B ≤ G2
  rows : ∀ i, i < 2 * n → W.ownsRow B 3 1 (rv i) (ll i).length ((ll i).map (Value.int .i64))
  apart : ∀ i j, i < 2 * n → j < 2 * n → i ≠ j → ∀ k, (rv i).ownBlock = some k → (rv j).ownBlock ≠ some k
section
variable {W W' : World} {B n G1 G2 : Nat} {rv : Nat → Value} {ll : Nat → List Int}
theorem WebOwn.step (h : WebOwn W B n G1 G2 rv ll) (hm : ∀ k, k < W.heap.size → W'.heap[k]? = W.heap[k]?) : WebOwn W' B n G1 G2 rv ll :=
  ⟨(hm _ (blk_lt h.h1)).trans h.h1, (hm _ (blk_lt h.h2)).trans h.h2, h.ne, h.g1, h.g2, fun i hi => own_move (h.rows i hi) fun k hk => hm k (own_lt (h.rows i hi) k hk), h.apart⟩
theorem WebOwn.step' (h : WebOwn W B n G1 G2 rv ll) (hm : ∀ k, (k = G1 ∨ k = G2 ∨ ∃ i, i < 2 * n ∧ (rv i).ownBlock = some k) → W'.heap[k]? = W.heap[k]?) : WebOwn W' B n G1 G2 rv ll :=
  ⟨(hm _ (.inl rfl)).trans h.h1, (hm _ (.inr (.inl rfl))).trans h.h2, h.ne, h.g1, h.g2, fun i hi => own_move (h.rows i hi) fun k hk => hm k (.inr (.inr ⟨i, hi, hk⟩)), h.apart⟩
theorem WebOwn.below (h : WebOwn W B n G1 G2 rv ll) (hb : Below W.heap.size W W') : WebOwn W' B n G1 G2 rv ll := h.step fun k hk => hb.block k hk
theorem WebOwn.alloc (h : WebOwn W B n G1 G2 rv ll) (o : Obj) : WebOwn (W.alloc o) B n G1 G2 rv ll := h.below (below_alloc (Below.refl _ _) _)
theorem WebOwn.drewN (h : WebOwn W B n G1 G2 rv ll) (q : Nat) : WebOwn (W.drewN q) B n G1 G2 rv ll := h.step fun _ _ => rfl
theorem WebOwn.drew (h : WebOwn W B n G1 G2 rv ll) : WebOwn W.drew B n G1 G2 rv ll := h.step fun _ _ => rfl
/-- The store of a row at a place of a header. -/
theorem WebOwn.put {g : Nat} {v : Value} {xs : List Int} {i s p : Nat} (h : WebOwn W B n G1 G2 rv ll) (hg : W.grownBy W' (rv i).ownBlock) (hi : i < 2 * n)
    (hv : W'.ownsRow B 3 1 v xs.length (xs.map (Value.int .i64))) (hat : ∀ k, v.ownBlock = some k → (rv i).ownBlock = some k ∨ W.heap.size ≤ k)
    (hs : (s = 0 ∧ g = G1) ∨ (s = n ∧ g = G2)) (hp : p < n) (hip : i = s + p) : WebOwn (W'.setCell ⟨g, p, none⟩ v) B n G1 G2 (up rv i v) (up ll i xs) := by
  have hne : ∀ {cs : Array Value} {k : Nat}, W.heap[k]? = some (.cells cs 25 (0, 0)) → some k ≠ (rv i).ownBlock := fun hk => own_ne (h.rows i hi) hk (by decide)
  have e1 := blk_grown h.h1 hg (hne h.h1)
  have e2 := blk_grown h.h2 hg (hne h.h2)
  have hrow : ∀ j, j < 2 * n → j ≠ i → W'.ownsRow B 3 1 (rv j) (ll j).length ((ll j).map (Value.int .i64)) := fun j hj hji => own_move (h.rows j hj) fun k hk => hg.block k (own_lt (h.rows j hj) k hk) (fun e => h.apart j i hj hi hji k hk e.symm)
  have hcell : ∀ {v' : Value} {m : Nat} {ys : List Value}, W'.ownsRow B 3 1 v' m ys → (W'.setCell ⟨g, p, none⟩ v).ownsRow B 3 1 v' m ys := fun ho => own_move ho fun k hk => Below.heap_setCell _ _ _ _ (by
    obtain ⟨cs, hc⟩ := own_typed ho k hk
    rintro rfl
    rcases hs with ⟨_, rfl⟩ | ⟨_, rfl⟩
    · rw [e1] at hc; cases hc
    · rw [e2] at hc; cases hc)
  refine ⟨?_, ?_, h.ne, h.g1, h.g2, fun j hj => ?_, fun j k hj hk hjk b hb => ?_⟩
  · rcases hs with ⟨rfl, rfl⟩ | ⟨rfl, rfl⟩
    · exact blk_put e1 p v (by rw [hdr_set, ← hip])
    · rw [hdr_far _ _ (by omega)]; exact blk_far e1 h.ne v
  · rcases hs with ⟨rfl, rfl⟩ | ⟨rfl, rfl⟩
    · rw [hdr_far _ _ (by omega)]; exact blk_far e2 (fun e => h.ne e.symm) v
    · exact blk_put e2 p v (by rw [hdr_set, ← hip])
  · by_cases e : j = i
    · subst e; rw [up_same, up_same]; exact hcell hv
    · rw [up_other _ _ e, up_other _ _ e]; exact hcell (hrow j hj e)
  · have hfar : ∀ m, m < 2 * n → m ≠ i → ∀ k, (rv m).ownBlock = some k → v.ownBlock ≠ some k := fun m hm hmi k hk hvk => by
      rcases hat k hvk with h1 | h1
      · exact h.apart m i hm hi hmi k hk h1
      · have := own_lt (h.rows m hm) k hk; omega
    by_cases e : j = i
    · subst e
      rw [up_same] at hb
      rw [up_other _ _ (fun e => hjk e.symm)]
      exact fun hk' => hfar k hk (fun e => hjk e.symm) b hk' hb
    · rw [up_other _ _ e] at hb
      by_cases e2 : k = i
      · subst e2; rw [up_same]; exact hfar j hj e b hb
      · rw [up_other _ _ e2]; exact h.apart j k hj hk hjk b hb
/-- A store into a block that is none of theirs. -/
theorem WebOwn.far {z t : Nat} {cs : Array Value} {fr : Nat × Nat} (h : WebOwn W B n G1 G2 rv ll) (hz : W.heap[z]? = some (.cells cs t fr)) (h25 : t ≠ 25) (h3 : t ≠ 3) (i : Nat) (v : Value) : WebOwn (W.setCell ⟨z, i, none⟩ v) B n G1 G2 rv ll :=
  h.step' (fun k hk => Below.heap_setCell _ _ _ _ (by
    rcases hk with rfl | rfl | ⟨i, hi, hk⟩
    · rintro rfl; rw [h.h1] at hz; cases hz; exact h25 rfl
    · rintro rfl; rw [h.h2] at hz; cases hz; exact h25 rfl
    · obtain ⟨cs', hc⟩ := own_typed (h.rows i hi) k hk
      rintro rfl; rw [hc] at hz; cases hz; exact h3 rfl))
/-- The cell of a header's place. -/
theorem WebOwn.cell1 (h : WebOwn W B n G1 G2 rv ll) {p : Nat} (hp : p < n) : W.cell? ⟨G1, p, none⟩ = some (rv p) := (blk_cell h.h1 p).trans (by rw [hdr_get _ hp, Nat.zero_add])
theorem WebOwn.cell2 (h : WebOwn W B n G1 G2 rv ll) {p : Nat} (hp : p < n) : W.cell? ⟨G2, p, none⟩ = some (rv (n + p)) := (blk_cell h.h2 p).trans (hdr_get _ hp)
end
end Go.Proofs.Ytbcmckfceeakhaa.Gv
end

section
set_option linter.unusedVariables false
set_option linter.unusedSimpArgs false
namespace Go.Proofs.Ytbcmckfceeakhaa.Gv
open Go.RowKit Go.Proofs.YtbcmckfceeakhaaW.PrintWords Go.Proofs.Ytbcmckfceeakhaa.GB

theorem info25 : (Try.prog.info? 25).map (fun i => (i.zero, i.size, i.bytes)) = some (some (.slice none 0 0), 1, 24) := by kernel_rfl
theorem info3 : (Try.prog.info? 3).map (fun i => (i.zero, i.size, i.bytes)) = some (some (.int .i64 0), 1, 8) := by kernel_rfl
theorem made_hdr (n s : Nat) : madeCells #[Value.slice none 0 0] n = hdr n s (fun _ => .slice none 0 0) := by
  apply Array.ext_getElem?
  intro j
  by_cases hj : j < n
  · rw [hdr_get _ hj]; simp [madeCells, hj, Nat.mod_one]
  · simp [madeCells, hdr, hj]

/-- What lies in the web before place p is looked at. -/
noncomputable def bkAll (l : List Int) (p : Nat) (q : Int) : List Int := ((List.range p).map fun p' : Nat => ((nextL l p').filter (· == q)).map fun _ => (p' : Int)).flatten
noncomputable def webA (l : List Int) (p i : Nat) : List Int := if i < l.length then (if i < p then nextL l i else []) else bkAll l p ((i : Int) - l.length)
/-- .. while place p's j-th way is looked at. -/
noncomputable def webB (l : List Int) (p j i : Nat) : List Int := if i < l.length then (if i < p + 1 then nextL l i else []) else bkAll l p ((i : Int) - l.length) ++ ((((nextL l p).take j).filter (· == ((i : Int) - l.length))).map fun _ => (p : Int))
theorem webA_zero (l : List Int) : webA l 0 = fun _ => [] := by
  funext i; unfold webA bkAll; split <;> simp
theorem webB_start {l : List Int} {p : Nat} (hp : p < l.length) : up (webA l p) p (nextL l p) = webB l p 0 := by
  funext i
  unfold up webA webB
  by_cases e : i = p
  · subst e; simp [hp]
  · rw [if_neg e]
    split
    · split <;> split <;> first | rfl | omega
    · simp
theorem webB_step {l : List Int} {p j : Nat} (hok : okW l) (hj : j < (nextL l p).length) :
    up (webB l p j) (l.length + ((nextL l p)[j]).toNat) (webB l p j (l.length + ((nextL l p)[j]).toNat) ++ [(p : Int)]) = webB l p (j + 1) := by
  have hq := nextL_lt hok (List.getElem_mem hj)
  funext i
  unfold up webB
  by_cases e : i = l.length + ((nextL l p)[j]).toNat
  · subst e
    rw [if_pos rfl, if_neg (by omega), if_neg (by omega), List.take_succ_eq_append_getElem hj, List.filter_append, List.map_append, List.append_assoc]
    have e2 : ((l.length + ((nextL l p)[j]).toNat : Nat) : Int) - l.length = (nextL l p)[j] := by omega
    rw [e2]
    simp
  · rw [if_neg e]
    split
    · rfl
    · have hne : ((nextL l p)[j] == ((i : Int) - l.length)) = false := by
        apply beq_eq_false_iff_ne.2
        intro e3; apply e; omega
      rw [List.take_succ_eq_append_getElem hj, List.filter_append, List.map_append]
      simp [hne]
theorem webB_self {l : List Int} {p j : Nat} (hp : p < l.length) : webB l p j p = nextL l p := by unfold webB; rw [if_pos hp, if_pos (by omega)]
theorem bkAll_len (l : List Int) (p : Nat) (q : Int) : (bkAll l p q).length ≤ 2 * p := by
  induction p with
  | zero => simp [bkAll]
  | succ p ih =>
    unfold bkAll at *
    rw [List.range_succ, List.map_append, List.flatten_append, List.length_append]
    have h1 := List.length_filter_le (· == q) (nextL l p)
    have h2 := nextL_len l p
    simp only [List.map_cons, List.map_nil, List.flatten_cons, List.flatten_nil, List.append_nil, List.length_map]
    omega
theorem webB_len {l : List Int} {p j q : Nat} (_hq : q < l.length) (hp : p ≤ 64) : (webB l p j (l.length + q)).length ≤ 1000000 := by
  unfold webB
  rw [if_neg (by omega), List.length_append, List.length_map]
  have h1 := bkAll_len l p (((l.length + q : Nat) : Int) - l.length)
  have h2 := List.length_filter_le (· == (((l.length + q : Nat) : Int) - l.length)) ((nextL l p).take j)
  have h3 := nextL_len l p
  rw [List.length_take] at h2
  omega
theorem webB_end (l : List Int) (p : Nat) : webB l p (nextL l p).length = webA l (p + 1) := by
  funext i
  unfold webA webB
  split
  · rfl
  · rw [List.take_length]
    unfold bkAll
    rw [List.range_succ, List.map_append, List.flatten_append]
    simp

theorem own_slice {w : World} {base e n : Nat} {v : Value} {xs : List Value} (h : w.ownsRow base e 1 v n xs) : ∃ A c, v = .slice A n c := by
  rcases h.2 with ⟨rfl, rfl⟩ | ⟨g, cap, cur, rfl, _⟩
  · exact ⟨_, _, rfl⟩
  · exact ⟨_, _, rfl⟩
section
variable (w : World) (Z o1 o2 o3 : Obj)
theorem blk3_0 : ((((w.alloc Z).alloc o1).alloc o2).alloc o3).drew.heap[w.heap.size]? = some Z := blk_drew (blk_alloc (blk_alloc (blk_alloc (blk_new w Z) o1) o2) o3)
theorem blk3_1 : ((((w.alloc Z).alloc o1).alloc o2).alloc o3).drew.heap[w.heap.size + 1]? = some o1 := by
  have := blk_drew (blk_alloc (blk_alloc (blk_new (w.alloc Z) o1) o2) o3)
  rwa [World.size_alloc] at this
theorem blk3_2 : ((((w.alloc Z).alloc o1).alloc o2).alloc o3).drew.heap[w.heap.size + 1 + 1]? = some o2 := by
  have := blk_drew (blk_alloc (blk_new ((w.alloc Z).alloc o1) o2) o3)
  rwa [World.size_alloc, World.size_alloc] at this
theorem blk3_3 : ((((w.alloc Z).alloc o1).alloc o2).alloc o3).drew.heap[w.heap.size + 1 + 1 + 1]? = some o3 := by
  have := blk_drew (blk_new (((w.alloc Z).alloc o1).alloc o2) o3)
  rwa [World.size_alloc, World.size_alloc, World.size_alloc] at this
theorem below3 : Below w.heap.size w ((((w.alloc Z).alloc o1).alloc o2).alloc o3).drew := (below_alloc (below_alloc (below_alloc (below_alloc (Below.refl _ _) _) _) _) _).drew
end
theorem webOwn_start {W : World} {B G1 G2 : Nat} (l : List Int) (h1 : W.heap[G1]? = some (.cells (hdr l.length 0 fun _ => .slice none 0 0) 25 (0, 0))) (h2 : W.heap[G2]? = some (.cells (hdr l.length 0 fun _ => .slice none 0 0) 25 (0, 0))) (hne : G1 ≠ G2) (g1 : B ≤ G1) (g2 : B ≤ G2) :
    WebOwn W B l.length G1 G2 (fun _ => .slice none 0 0) (webA l 0) := by
  rw [webA_zero]
  exact ⟨h1, h2, hne, g1, g2, fun i _ => own_nil _ _ _ _, fun i j _ _ _ k hk => by cases hk⟩
set_option maxRecDepth 100000 in
set_option maxHeartbeats 4000000 in
theorem weave_any (A0 : Option Addr) (c0 : Nat) (l0 : List Int) (w : World) (hr0 : Kd.C (Kd.int .u32) w A0 l0.length l0) (hok : okW l0) :
    Calls Try.prog 45 #[.slice A0 l0.length c0] w fun e w' => ∃ G1 G2 rv, e = .returned (.agg #[.slice (some ⟨G1, 0, none⟩) l0.length l0.length, .slice (some ⟨G2, 0, none⟩) l0.length l0.length]) ∧
      WebOwn w' w.heap.size l0.length G1 G2 rv (webA l0 l0.length) ∧ Below w.heap.size w w' := by
  have hl := hok.1
  have hmk : ∀ W : World, (Instr.makeSlice 66 (.int .i64 l0.length) (.int .i64 l0.length)).run Try.prog W = .ok (.slice (some ⟨W.heap.size, 0, none⟩) l0.length l0.length) (W.alloc (.cells (hdr l0.length 0 (fun _ => .slice none 0 0)) 25)) := by
    intro W
    rw [← made_hdr l0.length 0]
    exact run_make_row' 66 25 (.slice none 0 0) 24 Try.underlying66 info25 rfl .i64 .i64 l0.length (by omega) (by omega) W
  go_enter Try.func45, Try.ntmps45
  go_upto_region 1 with (fail)
  go_cut [3] (fun v3 wc => ∃ G1 G2 Gw, v3 = .pointer (some ⟨Gw, 0, none⟩) ∧ Aside0 (wc.heap[Gw]? = some (.cells #[.slice (some ⟨G1, 0, none⟩) l0.length l0.length, .slice (some ⟨G2, 0, none⟩) l0.length l0.length] 68 (0, 0))) ∧
     Aside0 (wc.heap[w.heap.size]? = some (.cells #[.slice none 0 0, .slice none 0 0] 68 (0, 0))) ∧ Aside0 (WebOwn wc w.heap.size l0.length G1 G2 (fun _ => .slice none 0 0) (webA l0 0)) ∧ Aside0 (w.heap.size < Gw) ∧ Aside0 (Below w.heap.size w wc))
  case first =>
    go_region
    all_goals
      go_wp2_with fail
      go_meet
      case rel => exact ⟨_, _, _, rfl, ⟨by with_reducible (first | exact blk3_1 _ _ _ _ _ | exact blk3_2 _ _ _ _ _ | exact blk3_3 _ _ _ _ _)⟩, ⟨blk3_0 _ _ _ _ _⟩, ⟨webOwn_start l0 (by with_reducible (first | exact blk3_1 _ _ _ _ _ | exact blk3_2 _ _ _ _ _ | exact blk3_3 _ _ _ _ _)) (by with_reducible (first | exact blk3_1 _ _ _ _ _ | exact blk3_2 _ _ _ _ _ | exact blk3_3 _ _ _ _ _)) (by omega) (by omega) (by omega)⟩, ⟨by omega⟩, ⟨below3 _ _ _ _ _⟩⟩
  case rest =>
    clear hmk
    obtain ⟨G1, G2, Gw, rfl, HG, HZ, HO, HL, HB⟩ := hcut
    have HR := Aside0.mk hr0
    have HOK := Aside0.mk hok
    clear hr0 hok
    go_wp2_with fail
    go_loopw [16] (fun i wr => ∃ (p : Nat) (rv : Nat → Value), p ≤ l0.length ∧ i = .int .i64 p ∧ Aside0 (wr.heap[Gw]? = some (.cells #[.slice (some ⟨G1, 0, none⟩) l0.length l0.length, .slice (some ⟨G2, 0, none⟩) l0.length l0.length] 68 (0, 0))) ∧
      Aside0 (wr.heap[w.heap.size]? = some (.cells #[.slice none 0 0, .slice none 0 0] 68 (0, 0))) ∧ Aside0 (WebOwn wr w.heap.size l0.length G1 G2 rv (webA l0 p)) ∧ Aside0 (Below w.heap.size w wr)) (fun i _ => l0.length - (intOf i).toNat)
    case atStart => exact ⟨0, _, by omega, rfl, HG, HZ, HO, HB⟩
    case round =>
      clear HG HZ HO HB
      obtain ⟨p, rv, hp, rfl, HG, HZ, HO, HB⟩ := hrel
      by_cases hlt : p < l0.length
      · have hg0 : wr.cell? ⟨Gw, 0, none⟩ = some (.slice (some ⟨G1, 0, none⟩) l0.length l0.length) := blk_cell HG.out 0
        go_upto_region 5 with (fail)
        go_cut [] (fun wc => ∃ rv' : Nat → Value, Aside0 (wc.heap[Gw]? = some (.cells #[.slice (some ⟨G1, 0, none⟩) l0.length l0.length, .slice (some ⟨G2, 0, none⟩) l0.length l0.length] 68 (0, 0))) ∧
          Aside0 (wc.heap[w.heap.size]? = some (.cells #[.slice none 0 0, .slice none 0 0] 68 (0, 0))) ∧ Aside0 (WebOwn wc w.heap.size l0.length G1 G2 rv' (webB l0 p 0)) ∧ Aside0 (Below w.heap.size w wc))
        case first =>
          go_region_with (go_at_call 20; refine (next_own _ _ _ _ _ (Kd.C_below (Kd.C_below HR.out HB.out) (Below.refl _ _).drew) HOK.out).mono ?_; rintro e w1 ⟨v, rfl, ho, hb⟩; obtain ⟨vA, vc, rfl⟩ := own_slice ho; have c1 : w1.cell? ⟨Gw, 0, none⟩ = some (.slice (some ⟨G1, 0, none⟩) l0.length l0.length) := pw_cell_below hb hg0; have c2 : w1.cell? ⟨G1, p, none⟩ = some (rv p) := ((HO.out.drew).below hb).cell1 hlt; have c3 : w1.frozen? ⟨G1, p, none⟩ = false := blk_frozen ((HO.out.drew).below hb).h1 p; have ho := Aside0.mk ho; have hb := Aside0.mk hb)
          all_goals
            have HE := Aside0.mk (HO.out.drew.put (i := p) (s := 0) (grown_of_below hb.out _) (by omega) (own_weaken ho.out HB.out.size) (fun k hk => .inr (own_base ho.out k hk)) (.inl ⟨rfl, rfl⟩) hlt (by omega))
            have HG2 := Aside0.mk (blk_far (blk_below (blk_drew HG.out) hb.out) (p := ⟨G1, p, none⟩) (blk_ne (blk_drew HG.out) HO.out.drew.h1 (by decide)) (.slice vA (nextL l0 p).length vc))
            have HZ2 := Aside0.mk (blk_far (blk_below (blk_drew HZ.out) hb.out) (p := ⟨G1, p, none⟩) (blk_ne (blk_drew HZ.out) HO.out.drew.h1 (by decide)) (.slice vA (nextL l0 p).length vc))
            have HB2 := Aside0.mk (((HB.out.drew.trans (hb.out.mono (by exact HB.out.size))).setCell (p := ⟨G1, p, none⟩) HO.out.g1 (.slice vA (nextL l0 p).length vc)))
            go_wp2_with fail
            go_meet
            case rel => exact ⟨up rv p (.slice vA (nextL l0 p).length vc), by first | exact HG2 | exact HG2.out.drew, HZ2, ⟨by rw [← webB_start hlt]; exact HE.out⟩, HB2⟩
        case rest =>
          clear HG HZ HO HB
          obtain ⟨rv', HG, HZ, HO, HB⟩ := hcut
          have hrow := HO.out.rows p (by omega)
          rw [webB_self hlt] at hrow
          obtain ⟨A, c, hv⟩ := own_slice hrow
          have hg0 : wc.cell? ⟨Gw, 0, none⟩ = some (.slice (some ⟨G1, 0, none⟩) l0.length l0.length) := blk_cell HG.out 0
          have hg1 : wc.cell? ⟨G1, p, none⟩ = some (.slice A (nextL l0 p).length c) := (HO.out.cell1 hlt).trans (by rw [hv])
          have HV := Lib.hid hv
          have hN := nextL_len l0 p
          clear hrow hv
          go_wp2_with fail
          go_loopw [32] (fun i wr => ∃ (j : Nat) (rv : Nat → Value), j ≤ (nextL l0 p).length ∧ i = .int .i64 j ∧ Aside0 (rv p = .slice A (nextL l0 p).length c) ∧ Aside0 (wr.heap[Gw]? = some (.cells #[.slice (some ⟨G1, 0, none⟩) l0.length l0.length, .slice (some ⟨G2, 0, none⟩) l0.length l0.length] 68 (0, 0))) ∧
            Aside0 (wr.heap[w.heap.size]? = some (.cells #[.slice none 0 0, .slice none 0 0] 68 (0, 0))) ∧ Aside0 (WebOwn wr w.heap.size l0.length G1 G2 rv (webB l0 p j)) ∧ Aside0 (Below w.heap.size w wr)) (fun i _ => (nextL l0 p).length - (intOf i).toNat)
          case atStart => exact ⟨0, rv', by omega, rfl, ⟨HV.out⟩, HG, HZ, HO, HB⟩
          case round =>
            clear HG HZ HO HB HV hg0 hg1
            obtain ⟨j, rv2, hj, rfl, HV, HG, HZ, HO, HB⟩ := hrel
            by_cases hjl : j < (nextL l0 p).length
            · have hqm := nextL_lt HOK.out (List.getElem_mem hjl)
              obtain ⟨q, hq⟩ : ∃ q : Nat, (nextL l0 p)[j] = q := ⟨((nextL l0 p)[j]).toNat, by omega⟩
              have hqn : q < l0.length := by omega
              have hws := webB_step (p := p) HOK.out hjl
              rw [show (nextL l0 p)[j].toNat = q by omega] at hws
              have HW := Lib.hid hws
              clear hws
              have HQ := Lib.hid hq
              have hrow := HO.out.rows p (by omega)
              rw [webB_self hlt, HV.out] at hrow
              obtain ⟨_, hcs⟩ := own_cases hrow
              rcases hcs with ⟨_, h0, _⟩ | ⟨g, c', hv', _, _, _, hH⟩
              · omega
              injection hv' with hA _ hC
              subst hA hC
              have hx : wr.cell? ⟨g, j, none⟩ = some (.int .i64 q) := by
                have := (hH j (by simpa using hjl)).1
                rw [Nat.zero_add] at this
                rw [this, ← hq]
                simp [hjl]
              obtain ⟨Aq, cq, hvq⟩ := own_slice (HO.out.rows (l0.length + q) (by omega))
              have HVQ := Lib.hid hvq
              have hd0 : ∀ o, (wr.alloc o).cell? ⟨Gw, 1, none⟩ = some (.slice (some ⟨G2, 0, none⟩) l0.length l0.length) := fun o => blk_cell (blk_alloc HG.out o) 1
              have hd1 : wr.cell? ⟨Gw, 1, none⟩ = some (.slice (some ⟨G2, 0, none⟩) l0.length l0.length) := blk_cell HG.out 1
              have he0 : ∀ o, (wr.alloc o).cell? ⟨G2, q, none⟩ = some (.slice Aq (webB l0 p j (l0.length + q)).length cq) := fun o => ((HO.out.alloc o).cell2 hqn).trans (by rw [hvq])
              have he1 : wr.cell? ⟨G2, q, none⟩ = some (.slice Aq (webB l0 p j (l0.length + q)).length cq) := (HO.out.cell2 hqn).trans (by rw [hvq])
              clear hH hq hvq hqm hrow
              have hbl : (webB l0 p j (l0.length + q)).length ≤ 1000000 := webB_len hqn (by omega)
              obtain ⟨i3, hi3, hz0, hz1, hz2⟩ := info_parts info3
              have HOA := Aside0.mk ((HO.out.alloc (.cells #[.int .i64 p] 3)).drew)
              have HBS : Aside0 (w.heap.size ≤ ((wr.alloc (.cells #[.int .i64 p] 3)).drew).heap.size) := ⟨by
                have h1 := HB.out.size
                have h2 := World.size_alloc wr (.cells #[.int .i64 p] 3)
                have h3 : ((wr.alloc (.cells #[.int .i64 p] 3)).drew).heap.size = (wr.alloc (.cells #[.int .i64 p] 3)).heap.size := rfl
                omega⟩
              have HZA := Aside0.mk (blk_drew (blk_alloc HZ.out (.cells #[.int .i64 p] 3)))
              have HGA := Aside0.mk (blk_drew (blk_alloc HG.out (.cells #[.int .i64 p] 3)))
              have HNB := Aside0.mk (World.news_of_block (blk_drew (blk_new wr (.cells #[.int .i64 p] 3))))
              go_wp2_with fail
              go_region_law (refine step_append_lies _ rfl (.tmp 43) (.tmp 45) 25 rfl w.heap.size 3 i3 (.int .i64 0) 1 8 Try.underlying25 hi3 hz0 hz1 hz2 rfl (by decide) (rv2 (l0.length + q)) (webB l0 p j (l0.length + q)).length ((webB l0 p j (l0.length + q)).map (Value.int .i64)) (by simp [Act.eval, HVQ.out]) (HOA.out.rows (l0.length + q) (by omega)) ⟨wr.heap.size, 0, none⟩ 1 1 [.int .i64 p] (by simp [Act.eval]) rfl HNB.out (by simp [Value.oneCell']) (by decide) (by unfold maxLen; omega) (by omega) HBS.out _ rfl ?_; intro g5 cap5 w1 ho5 hg5 hat5 hlt5; have c1 : w1.cell? ⟨Gw, 1, none⟩ = some (.slice (some ⟨G2, 0, none⟩) l0.length l0.length) := blk_cell (blk_grown HGA.out hg5 (own_ne (HOA.out.rows (l0.length + q) (by omega)) HGA.out (by decide))) 1; have c4 := blk_grown HOA.out.h2 hg5 (own_ne (HOA.out.rows (l0.length + q) (by omega)) HOA.out.h2 (by decide)); have c2 : w1.cell? ⟨G2, q, none⟩ = some (.slice Aq (webB l0 p j (l0.length + q)).length cq) := (blk_cell c4 q).trans ((hdr_get rv2 hqn).trans (by rw [HVQ.out])); have c3 : w1.frozen? ⟨G2, q, none⟩ = false := blk_frozen c4 q; clear c4; have ho5 := Aside0.mk ho5; have hg5 := Aside0.mk hg5; have hat5 := Aside0.mk hat5)
              all_goals
                have HE := Aside0.mk (HOA.out.put (i := l0.length + q) (s := l0.length) (p := q) (xs := webB l0 p j (l0.length + q) ++ [(p : Int)]) hg5.out (by omega) (by rw [List.length_append, List.map_append]; exact ho5.out) (fun k hk => by
                  have hk' : g5 = k := by simpa [Value.ownBlock] using hk
                  subst hk'
                  rcases hat5.out with h | h
                  · exact .inl h
                  · exact .inr (Nat.le_of_eq h.symm)) (.inr ⟨rfl, rfl⟩) hqn rfl)
                have hro := HOA.out.rows (l0.length + q) (by omega)
                have HG2 := Aside0.mk (blk_far (blk_grown HGA.out hg5.out (own_ne hro HGA.out (by decide))) (p := ⟨G2, q, none⟩) (blk_ne HGA.out HOA.out.h2 (by decide)) (.slice (some ⟨g5, 0, none⟩) ((webB l0 p j (l0.length + q)).length + 1) cap5))
                have HZ2 := Aside0.mk (blk_far (blk_grown HZA.out hg5.out (own_ne hro HZA.out (by decide))) (p := ⟨G2, q, none⟩) (blk_ne HZA.out HOA.out.h2 (by decide)) (.slice (some ⟨g5, 0, none⟩) ((webB l0 p j (l0.length + q)).length + 1) cap5))
                have HB2 := Aside0.mk ((((below_alloc HB.out (.cells #[.int .i64 p] 3)).drew.grown hg5.out HBS.out (fun k hk => own_base hro k hk)).setCell (p := ⟨G2, q, none⟩) HO.out.g2 (.slice (some ⟨g5, 0, none⟩) ((webB l0 p j (l0.length + q)).length + 1) cap5)))
                clear hro
                go_wp2_with fail
                go_roundw
                case rel => exact ⟨j + 1, up rv2 (l0.length + q) (.slice (some ⟨g5, 0, none⟩) ((webB l0 p j (l0.length + q)).length + 1) cap5), by omega, by go_num, ⟨by rw [up_other _ _ (by omega)]; exact HV.out⟩, HG2, HZ2, ⟨by rw [← HW.out]; exact HE.out⟩, HB2⟩
                case measure => simp [intOf]; omega
            · obtain rfl : j = (nextL l0 p).length := by omega
              go_wp2_with fail
              go_roundw
              case rel => exact ⟨p + 1, rv2, by omega, by go_num, HG, HZ, ⟨by rw [← webB_end]; exact HO.out⟩, HB⟩
              case measure => simp [intOf]; omega
      · obtain rfl : p = l0.length := by omega
        have hg0 : wr.cell? ⟨Gw, 0, none⟩ = some (.slice (some ⟨G1, 0, none⟩) l0.length l0.length) := blk_cell HG.out 0
        have hg1 : wr.cell? ⟨Gw, 1, none⟩ = some (.slice (some ⟨G2, 0, none⟩) l0.length l0.length) := blk_cell HG.out 1
        have hz0 : wr.cell? ⟨w.heap.size, 0, none⟩ = some (.slice none 0 0) := blk_cell HZ.out 0
        have hz1 : wr.cell? ⟨w.heap.size, 1, none⟩ = some (.slice none 0 0) := blk_cell HZ.out 1
        have hf0 : wr.frozen? ⟨w.heap.size, 0, none⟩ = false := blk_frozen HZ.out 0
        have hf1 : wr.frozen? ⟨w.heap.size, 1, none⟩ = false := blk_frozen HZ.out 1
        go_wp2_with fail
        refine bodyPost_ret (results_cell_row rfl _ _ w.heap.size 68 #[.slice (some ⟨G1, 0, none⟩) l0.length l0.length, .slice (some ⟨G2, 0, none⟩) l0.length l0.length] (0, 0) _ rfl (blk_put (blk_put HZ.out 0 _ rfl) 1 _ rfl) Try.underlying68 rfl (by kernel_rfl)) rfl ⟨G1, G2, rv, rfl, ?_, ?_⟩
        · exact (HO.out.far HZ.out (by decide) (by decide) 0 _).far (blk_put HZ.out 0 _ rfl) (by decide) (by decide) 1 _
        · exact (HB.out.setCell (p := ⟨w.heap.size, 0, none⟩) (Nat.le_refl _) _).setCell (p := ⟨w.heap.size, 1, none⟩) (Nat.le_refl _) _
end Go.Proofs.Ytbcmckfceeakhaa.Gv
end

section
set_option linter.unusedVariables false
set_option linter.unusedSimpArgs false
namespace Go.Proofs.Ytbcmckfceeakhaa.Gv
open Go.RowKit Go.Proofs.YtbcmckfceeakhaaW.PrintWords Go.Proofs.Ytbcmckfceeakhaa.GB

/-! Sets of no more than 64 places: one word in a block of its own. -/
theorem and63 (p : Nat) (hp : p < 64) : Go.bits .and .i64 (p : Int) 63 = p := by
  have : ∀ q : Fin 64, Go.bits .and .i64 ((q.val : Nat) : Int) 63 = (q.val : Nat) := by decide +kernel
  exact this ⟨p, hp⟩
theorem wrap63 (p : Nat) (hp : p < 64) : IntKind.u64.wrap (p : Int) = p := by rw [IntKind.wrap_u64]; omega
theorem pow64 (p : Nat) (hp : p < 64) : 2 ^ p < 18446744073709551616 := by
  calc 2 ^ p < 2 ^ 64 := Nat.pow_lt_pow_right (by decide) hp
    _ = 18446744073709551616 := by decide
theorem shl1 (p : Nat) (hp : p < 64) : IntKind.u64.wrap (2 ^ p) = ((2 ^ p : Nat) : Int) := by
  have h := pow64 p hp
  rw [IntKind.wrap_u64, show ((2:Int) ^ p) = ((2 ^ p : Nat) : Int) by simp]
  generalize 2 ^ p = m at h ⊢
  omega
theorem bit1 (s p : Nat) (hs : s < 18446744073709551616) : (Go.bits .and .u64 ((s : Int) / 2 ^ p) 1 == 1) = s.testBit p := by
  have e : ((s : Int) / 2 ^ p) = ((s / 2 ^ p : Nat) : Int) := by simp
  have hd : s / 2 ^ p < 18446744073709551616 := Nat.lt_of_le_of_lt (Nat.div_le_self _ _) hs
  rw [e, show (1 : Int) = ((1 : Nat) : Int) by rfl, bits_and_u64_nat _ _ hd (by decide), Nat.testBit_eq_decide_div_mod_eq, Nat.and_one_is_mod]
  by_cases h : s / 2 ^ p % 2 = 1
  · rw [h]; simp
  · have : s / 2 ^ p % 2 = 0 := by omega
    rw [this]; simp
theorem set_has {W : World} {g s p c : Nat} (hp : p < 64) (hs : s < 18446744073709551616) (h : W.heap[g]? = some (.cells #[.int .u64 s] 77 (0, 0))) :
    Calls Try.prog 52 #[.slice (some ⟨g, 0, none⟩) 1 c, .int .i64 p] W fun e w' => e = .returned (.bool (s.testBit p)) ∧ ∃ q, w' = W.drewN q := by
  have hc : W.cell? ⟨g, 0, none⟩ = some (.int .u64 s) := blk_cell h 0
  have e0 : (p : Int) / 64 = 0 := by omega
  have e1 := and63 p hp
  have e2 := wrap63 p hp
  have H := Aside0.mk (bit1 s p hs)
  have hp0 : (0 : Int) ≤ p := by omega
  have hp1 : (p : Int) ≤ 64 := by omega
  clear h
  go_enter Try.func52, Try.ntmps52
  go_wp2
  go_ret
  exact ⟨by show Ending.returned (Value.bool _) = _; rw [H.out], 0, rfl⟩
theorem set_put {W : World} {g s p c : Nat} (hp : p < 64) (hs : s < 18446744073709551616) (h : W.heap[g]? = some (.cells #[.int .u64 s] 77 (0, 0))) :
    Calls Try.prog 50 #[.slice (some ⟨g, 0, none⟩) 1 c, .int .i64 p] W fun e w' => e = .returned (.tuple #[]) ∧ ∃ q, w' = (W.setCell ⟨g, 0, none⟩ (.int .u64 (s ||| 2 ^ p : Nat))).drewN q := by
  have hc : W.cell? ⟨g, 0, none⟩ = some (.int .u64 s) := blk_cell h 0
  have hf : W.frozen? ⟨g, 0, none⟩ = false := blk_frozen h 0
  have e0 : (p : Int) / 64 = 0 := by omega
  have e1 := and63 p hp
  have e2 := wrap63 p hp
  have e3 := shl1 p hp
  have hp0 : (0 : Int) ≤ p := by omega
  have hp1 : (p : Int) ≤ 64 := by omega
  have e4 : Go.bits .or .u64 (s : Int) (2 ^ p) = ((s ||| 2 ^ p : Nat) : Int) := by
    rw [show ((2:Int) ^ p) = ((2 ^ p : Nat) : Int) by simp]
    exact bits_or_u64_nat s (2 ^ p) hs (pow64 p hp)
  clear h
  go_enter Try.func50, Try.ntmps50
  go_wp2
  go_end0
  exact ⟨rfl, 0, rfl⟩
/-- A new set, with no place in it. -/
def setCells (n : Nat) (s : Nat) : Array Value := if n = 0 then #[] else #[.int .u64 s]
def words (n : Nat) : Nat := if n = 0 then 0 else 1
theorem info77 : (Try.prog.info? 77).map (fun i => (i.zero, i.size, i.bytes)) = some (some (.int .u64 0), 1, 8) := by kernel_rfl
theorem set_none (n : Nat) (hn : n ≤ 64) (w : World) :
    Calls Try.prog 49 #[.int .i64 n] w fun e w' => e = .returned (.slice (some ⟨w.heap.size, 0, none⟩) (words n) (words n)) ∧ ∃ q, w' = (w.alloc (.cells (setCells n 0) 77)).drewN q := by
  have hmk : ∀ W : World, (Instr.makeSlice 72 (.int .i64 (words n)) (.int .i64 (words n))).run Try.prog W = .ok (.slice (some ⟨W.heap.size, 0, none⟩) (words n) (words n)) (W.alloc (.cells (setCells n 0) 77)) := by
    intro W
    have : setCells n 0 = madeCells #[.int .u64 0] (words n) := by
      unfold setCells words
      split
      · simp [madeCells]
      · unfold madeCells; rw [show Array.range 1 = #[0] by decide]; simp
    rw [this]
    exact run_make_row' 72 77 (.int .u64 0) 8 Try.underlying72 info77 rfl .i64 .i64 (words n) (by unfold words; split <;> omega) (by unfold words; split <;> omega) W
  have e1 : IntKind.i64.wrap ((n : Int) + 63) = n + 63 := by rw [IntKind.wrap_i64]; omega
  have e2 : IntKind.i64.wrap (Int.tdiv ((n : Int) + 63) 64) = words n := by
    rw [Int.tdiv_eq_ediv_of_nonneg (by omega), IntKind.wrap_i64]
    unfold words
    split <;> omega
  go_enter Try.func49, Try.ntmps49
  go_wp2
  go_ret
  exact ⟨rfl, 0, rfl⟩
end Go.Proofs.Ytbcmckfceeakhaa.Gv
end

section
set_option linter.unusedVariables false
set_option linter.unusedSimpArgs false
namespace Go.Proofs.Ytbcmckfceeakhaa.Gv
open Go.RowKit Go.Proofs.YtbcmckfceeakhaaW.PrintWords

/-- What a search reads: its variables' blocks, the rows, and what its bar reads. -/
structure Srch (W : World) (B n GR s0 gs bS bB bR bC : Nat) (rv : Nat → Value) (ll : Nat → List Int) (fb : Nat) (cap : Array Value) : Prop where
  hS : W.heap[bS]? = some (.cells #[.slice (some ⟨gs, 0, none⟩) 1 1] 72 (0, 0))
  hB : W.heap[bB]? = some (.cells #[.func (.func fb) #[] cap] 74 (0, 0))
  hR : W.heap[bR]? = some (.cells #[.slice (some ⟨GR, 0, none⟩) n n] 66 (0, 0))
  hC : W.heap[bC]? = some (.cells #[.func (.func 77) #[] #[.pointer (some ⟨bS, 0, none⟩), .pointer (some ⟨bB, 0, none⟩), .pointer (some ⟨bR, 0, none⟩), .pointer (some ⟨bC, 0, none⟩)]] 76 (0, 0))
  hG : W.heap[GR]? = some (.cells (hdr n s0 rv) 25 (0, 0))
  rows : ∀ i, i < n → W.ownsRow B 3 1 (rv (s0 + i)) (ll (s0 + i)).length ((ll (s0 + i)).map (Value.int .i64))
  lt : ∀ i, i < n → ∀ x ∈ ll (s0 + i), 0 ≤ x ∧ x < n
  len : ∀ i, i < n → (ll (s0 + i)).length ≤ 1000000
/-- Nothing but the set has turned. -/
structure Only (gs : Nat) (W W' : World) : Prop where
  keep : ∀ k, k < W.heap.size → k ≠ gs → W'.heap[k]? = W.heap[k]?
  below : ∀ B, B ≤ gs → Below B W W'
theorem Only.refl (gs : Nat) (W : World) : Only gs W W := ⟨fun _ _ _ => rfl, fun _ _ => Below.refl _ _⟩
theorem Only.trans {gs : Nat} {a b c : World} (h : Only gs a b) (k : Only gs b c) : Only gs a c :=
  ⟨fun x hx hn => (k.keep x (Nat.lt_of_lt_of_le hx (h.below 0 (by omega)).size) hn).trans (h.keep x hx hn), fun B hB => (h.below B hB).trans (k.below B hB)⟩
theorem Only.drewN {gs : Nat} {a b : World} (h : Only gs a b) (q : Nat) : Only gs a (b.drewN q) := ⟨fun x hx hn => h.keep x hx hn, fun B hB => pw_below_drewN (h.below B hB) q⟩
theorem Only.drew {gs : Nat} {a b : World} (h : Only gs a b) : Only gs a b.drew := h.drewN 1
theorem Only.put {gs : Nat} {a b : World} (h : Only gs a b) (v : Value) : Only gs a (b.setCell ⟨gs, 0, none⟩ v) :=
  ⟨fun x hx hn => (Below.heap_setCell _ _ _ _ (fun e => hn (by first | exact e | exact e.symm))).trans (h.keep x hx hn), fun B hB => (h.below B hB).setCell (p := ⟨gs, 0, none⟩) hB v⟩
theorem Srch.step {W W' : World} {B n GR s0 gs bS bB bR bC : Nat} {rv : Nat → Value} {ll : Nat → List Int} {fb : Nat} {cap : Array Value} (h : Srch W B n GR s0 gs bS bB bR bC rv ll fb cap)
    {s : Nat} (hs : W.heap[gs]? = some (.cells #[.int .u64 s] 77 (0, 0))) (k : Only gs W W') : Srch W' B n GR s0 gs bS bB bR bC rv ll fb cap := by
  have hm : ∀ {b t : Nat} {cs : Array Value}, W.heap[b]? = some (.cells cs t (0, 0)) → t ≠ 77 → W'.heap[b]? = W.heap[b]? := fun hb ht => k.keep _ (blk_lt hb) (by
    rintro rfl; rw [hs] at hb; cases hb; exact ht rfl)
  refine ⟨(hm h.hS (by decide)).trans h.hS, (hm h.hB (by decide)).trans h.hB, (hm h.hR (by decide)).trans h.hR, (hm h.hC (by decide)).trans h.hC, (hm h.hG (by decide)).trans h.hG, fun i hi => own_move (h.rows i hi) fun b hb => ?_, h.lt, h.len⟩
  obtain ⟨cs, hc⟩ := own_typed (h.rows i hi) b hb
  exact hm hc (by decide)
set_option maxRecDepth 100000 in
set_option maxHeartbeats 4000000 in
theorem come_any (B n GR s0 gs bS bB bR bC : Nat) (rv : Nat → Value) (ll : Nat → List Int) (fb : Nat) (cap : Array Value) (bar : Nat → Bool) (hn : n ≤ 64) (J : World → Prop)
    (hJ : ∀ W W' (s : Nat), J W → W.heap[gs]? = some (.cells #[.int .u64 s] 77 (0, 0)) → Only gs W W' → J W')
    (hen : ∀ args W, (callFunc fb args).run Try.prog W = .ok (.enter fb args) W) (hbar : ∀ W p, J W → p < n → Calls Try.prog fb (#[.int .i64 (p : Nat)] ++ cap) W fun e w' => e = .returned (.bool (bar p)) ∧ ∃ q, w' = W.drewN q) :
    ∀ m s p W, AG.miss n s < m → p < n → s < 2 ^ n → Srch W B n GR s0 gs bS bB bR bC rv ll fb cap → J W → W.heap[gs]? = some (.cells #[.int .u64 s] 77 (0, 0)) →
      Calls Try.prog 77 #[.int .i64 p, .pointer (some ⟨bS, 0, none⟩), .pointer (some ⟨bB, 0, none⟩), .pointer (some ⟨bR, 0, none⟩), .pointer (some ⟨bC, 0, none⟩)] W fun e w' =>
        e = .returned (.tuple #[]) ∧ ∃ s' : Nat, s' < 2 ^ n ∧ w'.heap[gs]? = some (.cells #[.int .u64 s'] 77 (0, 0)) ∧ Only gs W w' ∧
          AG.Spr (fun i => (ll (s0 + i)).map Int.toNat) (fun q => bar q = false) s s' p := by
  intro m
  induction m with
  | zero => intro s p W h; omega
  | succ m ih =>
    intro s p W hm hp hs hQ hj hg
    have c1 : W.cell? ⟨bS, 0, none⟩ = some (.slice (some ⟨gs, 0, none⟩) 1 1) := blk_cell hQ.hS 0
    have c2 : W.cell? ⟨bB, 0, none⟩ = some (.func (.func fb) #[] cap) := blk_cell hQ.hB 0
    have hs64 : s < 18446744073709551616 := Nat.lt_of_lt_of_le hs (Nat.pow_le_pow_right (by decide) (show n ≤ 64 from hn))
    have hbar' := fun q => hbar (W.drewN q) p (hJ _ _ s hj hg ((Only.refl gs W).drewN q)) hp
    have HJ := Aside0.mk hJ
    have HJ0 := Aside0.mk hj
    have HQ := Aside0.mk hQ
    have HG := Aside0.mk hg
    have HI := Lib.hid ih
    have HN := Aside0.mk hn
    clear hJ hQ hg hbar ih hj
    by_cases hh : s.testBit p = true
    · go_enter Try.func77, Try.ntmps77
      go_wp2_with (first | (go_at_call 52; refine (set_has (by omega) hs64 HG.out).mono ?_; rintro e w' ⟨rfl, q, rfl⟩))
      exact bodyPost_ret (results_none rfl _ _ _) rfl ⟨rfl, s, hs, HG.out, (Only.refl gs W).drewN _, .skip (.inl hh)⟩
    have hh' : s.testBit p = false := by simpa using hh
    by_cases hb : bar p = true
    · go_enter Try.func77, Try.ntmps77
      go_wp2_with (first | (go_at_call 52; refine (set_has (by omega) hs64 HG.out).mono ?_; rintro e w' ⟨rfl, q, rfl⟩) | (refine (hbar' _).mono ?_; rintro e w' ⟨rfl, q', rfl⟩))
      exact bodyPost_ret (results_none rfl _ _ _) rfl ⟨rfl, s, hs, HG.out, ((Only.refl gs W).drewN _), .skip (.inr (by simp [hb]))⟩
    have hb' : bar p = false := by simpa using hb
    have hlt : s ||| 2 ^ p < 2 ^ n := AG.put_lt hs hp
    have hml : AG.miss n (s ||| 2 ^ p) < AG.miss n s := AG.miss_lt (fun q _ h => (AG.has_put s p q).2 (.inl h)) hp hh ((AG.has_put s p p).2 (.inr rfl))
    have HL := Aside0.mk hlt
    have HM := Aside0.mk (show AG.miss n (s ||| 2 ^ p) < m by omega)
    have HS := Aside0.mk hs
    have HH := Aside0.mk hh
    obtain ⟨A, c, hv⟩ := own_slice (HQ.out.rows p hp)
    have HO : ∀ q q', Aside0 (Only gs W (((W.drewN q).setCell ⟨gs, 0, none⟩ (.int .u64 (s ||| 2 ^ p : Nat))).drewN q')) := fun q q' => ⟨(((Only.refl gs W).drewN q).put _).drewN q'⟩
    have HQO : ∀ q q', Aside0 (Srch (((W.drewN q).setCell ⟨gs, 0, none⟩ (.int .u64 (s ||| 2 ^ p : Nat))).drewN q') B n GR s0 gs bS bB bR bC rv ll fb cap) := fun q q' => ⟨HQ.out.step HG.out (HO q q').out⟩
    have d1 : ∀ q q', (((W.drewN q).setCell ⟨gs, 0, none⟩ (.int .u64 (s ||| 2 ^ p : Nat))).drewN q').cell? ⟨bR, 0, none⟩ = some (.slice (some ⟨GR, 0, none⟩) n n) := fun q q' => blk_cell (HQO q q').out.hR 0
    have d2 : ∀ q q', (((W.drewN q).setCell ⟨gs, 0, none⟩ (.int .u64 (s ||| 2 ^ p : Nat))).drewN q').cell? ⟨GR, p, none⟩ = some (.slice A (ll (s0 + p)).length c) := fun q q' => (blk_cell (HQO q q').out.hG p).trans ((hdr_get rv hp).trans (by rw [hv]))
    have HV := Lib.hid hv
    have hN := HQ.out.len p hp
    clear hs hh hlt hml hm hv
    go_enter Try.func77, Try.ntmps77
    go_wp2_with (first | (go_at_call 52; refine (set_has (by omega) hs64 HG.out).mono ?_; rintro e w' ⟨rfl, q, rfl⟩) | (go_at_call 50; refine (set_put (by omega) hs64 (blk_drewN HG.out _)).mono ?_; rintro e w' ⟨rfl, q2, rfl⟩) | (refine (hbar' _).mono ?_; rintro e w' ⟨rfl, q', rfl⟩))
    have HS0 : Aside0 (((((W.drewN (q + q')).setCell ⟨gs, 0, none⟩ (.int .u64 (s ||| 2 ^ p : Nat))).drewN q2)).heap[gs]? = some (.cells #[.int .u64 (s ||| 2 ^ p : Nat)] 77 (0, 0))) := ⟨blk_drewN (blk_put (blk_drewN HG.out _) 0 _ rfl) _⟩
    go_loopw [24] (fun i wr => ∃ (j s1 : Nat), j ≤ (ll (s0 + p)).length ∧ i = .int .i64 j ∧ s1 < 2 ^ n ∧ Aside0 (wr.heap[gs]? = some (.cells #[.int .u64 s1] 77 (0, 0))) ∧ Aside0 (Only gs W wr) ∧
      Aside0 (AG.SprL (fun i => (ll (s0 + i)).map Int.toNat) (fun q => bar q = false) (s ||| 2 ^ p) s1 p (((ll (s0 + p)).take j).map Int.toNat))) (fun i _ => (ll (s0 + p)).length - (intOf i).toNat)
    case atStart => exact ⟨0, _, by omega, rfl, HL.out, HS0, HO _ _, ⟨AG.SprL.start _ _⟩⟩
    case round =>
      clear HS0
      obtain ⟨j, s1, hj, rfl, hs1, HG1, HW1, HP1⟩ := hrel
      have HS1 := Aside0.mk hs1
      clear hs1
      by_cases hjl : j < (ll (s0 + p)).length
      · have hqm := HQ.out.lt p hp _ (List.getElem_mem hjl)
        obtain ⟨q, hq⟩ : ∃ q : Nat, (ll (s0 + p))[j] = q := ⟨((ll (s0 + p))[j]).toNat, by omega⟩
        have hqn : q < n := by omega
        have HQ1 := Aside0.mk (HQ.out.step HG.out HW1.out)
        have hrow := HQ1.out.rows p hp
        rw [HV.out] at hrow
        obtain ⟨_, hcs⟩ := own_cases hrow
        rcases hcs with ⟨_, h0, _⟩ | ⟨g, c', hv', _, _, _, hH⟩
        · omega
        injection hv' with hA _ hC
        subst hA hC
        have hx : wr.cell? ⟨g, j, none⟩ = some (.int .i64 q) := by
          have := (hH j (by simpa using hjl)).1
          rw [Nat.zero_add] at this
          rw [this, ← hq]
          simp [hjl]
        have c3 : wr.cell? ⟨bC, 0, none⟩ = some (.func (.func 77) #[] #[.pointer (some ⟨bS, 0, none⟩), .pointer (some ⟨bB, 0, none⟩), .pointer (some ⟨bR, 0, none⟩), .pointer (some ⟨bC, 0, none⟩)]) := blk_cell HQ1.out.hC 0
        have HQQ := Lib.hid hq
        clear hH hq hqm hrow
        go_wp2_with (first | (go_at_call 77; refine (HI.out s1 q _ (Nat.lt_of_le_of_lt (AG.miss_mono fun x _ hx => HP1.out.grows x hx) HM.out) hqn HS1.out HQ1.out (HJ.out _ _ s HJ0.out HG.out HW1.out) HG1.out).mono ?_; rintro e w' ⟨rfl, s2, hs2, hg2, ho2, hp2⟩))
        go_roundw
        case rel =>
          refine ⟨j + 1, s2, by omega, by go_num, hs2, ⟨hg2⟩, ⟨HW1.out.trans ho2⟩, ⟨?_⟩⟩
          rw [List.take_succ_eq_append_getElem hjl, List.map_append, List.map_cons, List.map_nil, HQQ.out, Int.toNat_natCast]
          exact HP1.out.step hb' (List.mem_map.2 ⟨_, List.getElem_mem hjl, by rw [HQQ.out]; rfl⟩) hp2
        case measure => simp [intOf]; omega
      · obtain rfl : j = (ll (s0 + p)).length := by omega
        go_wp2_with fail
        go_end0
        refine ⟨rfl, s1, HS1.out, HG1.out, HW1.out, AG.SprL.done hb' ?_⟩
        have := HP1.out
        rwa [List.take_length] at this
end Go.Proofs.Ytbcmckfceeakhaa.Gv
end

section
set_option linter.unusedVariables false
set_option linter.unusedSimpArgs false
namespace Go.Proofs.Ytbcmckfceeakhaa.Gv
open Go.RowKit Go.Proofs.YtbcmckfceeakhaaW.PrintWords

/-- The rows that a search goes along. -/
structure Rows (W : World) (B n GR s0 : Nat) (rv : Nat → Value) (ll : Nat → List Int) : Prop where
  hG : W.heap[GR]? = some (.cells (hdr n s0 rv) 25 (0, 0))
  rows : ∀ i, i < n → W.ownsRow B 3 1 (rv (s0 + i)) (ll (s0 + i)).length ((ll (s0 + i)).map (Value.int .i64))
  lt : ∀ i, i < n → ∀ x ∈ ll (s0 + i), 0 ≤ x ∧ x < n
  len : ∀ i, i < n → (ll (s0 + i)).length ≤ 1000000
theorem size_drewN0 (W : World) (q : Nat) : (W.drewN q).heap.size = W.heap.size := rfl
section
variable (W : World) (o0 o1 o2 o3 o4 : Obj) (q : Nat)
theorem spw0 : ((((((W.alloc o0).alloc o1).alloc o2).drewN q).alloc o3).alloc o4).heap[W.heap.size]? = some o0 := blk_alloc (blk_alloc (blk_drewN (blk_alloc (blk_alloc (blk_new W o0) o1) o2) q) o3) o4
theorem spw1 : ((((((W.alloc o0).alloc o1).alloc o2).drewN q).alloc o3).alloc o4).heap[W.heap.size + 1]? = some o1 := by
  have := blk_alloc (blk_alloc (blk_drewN (blk_alloc (blk_new (W.alloc o0) o1) o2) q) o3) o4
  rwa [World.size_alloc] at this
theorem spw2 : ((((((W.alloc o0).alloc o1).alloc o2).drewN q).alloc o3).alloc o4).heap[W.heap.size + 1 + 1]? = some o2 := by
  have := blk_alloc (blk_alloc (blk_drewN (blk_new ((W.alloc o0).alloc o1) o2) q) o3) o4
  rwa [World.size_alloc, World.size_alloc] at this
theorem spw3 : ((((((W.alloc o0).alloc o1).alloc o2).drewN q).alloc o3).alloc o4).heap[W.heap.size + 1 + 1 + 1]? = some o3 := by
  have := blk_alloc (blk_new ((((W.alloc o0).alloc o1).alloc o2).drewN q) o3) o4
  rwa [size_drewN0, World.size_alloc, World.size_alloc, World.size_alloc] at this
theorem spw4 : ((((((W.alloc o0).alloc o1).alloc o2).drewN q).alloc o3).alloc o4).heap[W.heap.size + 1 + 1 + 1 + 1]? = some o4 := by
  have := blk_new (((((W.alloc o0).alloc o1).alloc o2).drewN q).alloc o3) o4
  rwa [World.size_alloc, size_drewN0, World.size_alloc, World.size_alloc, World.size_alloc] at this
theorem spwb : Below W.heap.size W ((((((W.alloc o0).alloc o1).alloc o2).drewN q).alloc o3).alloc o4) := below_alloc (below_alloc (pw_below_drewN (below_alloc (below_alloc (below_alloc (Below.refl _ _) _) _) _) q) _) _
end
set_option maxRecDepth 100000 in
set_option maxHeartbeats 4000000 in
theorem spread_any (B n GR s0 pc : Nat) (rv : Nat → Value) (ll : Nat → List Int) (fb : Nat) (cap : Array Value) (bar : Nat → Bool) (hn : n ≤ 64) (W : World) (hR : Rows W B n GR s0 rv ll)
    (hen : ∀ args W, (callFunc fb args).run Try.prog W = .ok (.enter fb args) W)
    (hbar : ∀ X p, (∀ k, k < W.heap.size → X.heap[k]? = W.heap[k]?) → p < n → Calls Try.prog fb (#[.int .i64 (p : Nat)] ++ cap) X fun e w' => e = .returned (.bool (bar p)) ∧ ∃ q, w' = X.drewN q) :
    Calls Try.prog 47 #[.slice (some ⟨GR, 0, none⟩) n n, .int .i64 pc, .func (.func fb) #[] cap] W fun e w' => ∃ g s', e = .returned (.slice (some ⟨g, 0, none⟩) (words n) (words n)) ∧
      W.heap.size ≤ g ∧ w'.heap[g]? = some (.cells (setCells n s') 77 (0, 0)) ∧ s' < 2 ^ n ∧ Below W.heap.size W w' ∧
      (∀ q, AG.has s' q ↔ pc < n ∧ AG.Rch (fun i => (ll (s0 + i)).map Int.toNat) (fun q => bar q = false) pc q) := by
  have hb0 := fun q => (spwb W (.cells #[.slice (some ⟨GR, 0, none⟩) n n] 66 (0, 0)) (.cells #[.func (.func fb) #[] cap] 74 (0, 0)) (.cells (setCells n 0) 77 (0, 0)) (.cells #[.slice (some ⟨W.heap.size + 1 + 1, 0, none⟩) (words n) (words n)] 72 (0, 0)) (.cells #[.func (.func 77) #[] #[.pointer (some ⟨W.heap.size + 1 + 1 + 1, 0, none⟩), .pointer (some ⟨W.heap.size + 1, 0, none⟩), .pointer (some ⟨W.heap.size, 0, none⟩), .pointer (some ⟨W.heap.size + 1 + 1 + 1 + 1, 0, none⟩)]] 76 (0, 0)) q)
  have hg0 := fun q => (spw2 W (.cells #[.slice (some ⟨GR, 0, none⟩) n n] 66 (0, 0)) (.cells #[.func (.func fb) #[] cap] 74 (0, 0)) (.cells (setCells n 0) 77 (0, 0)) (.cells #[.slice (some ⟨W.heap.size + 1 + 1, 0, none⟩) (words n) (words n)] 72 (0, 0)) (.cells #[.func (.func 77) #[] #[.pointer (some ⟨W.heap.size + 1 + 1 + 1, 0, none⟩), .pointer (some ⟨W.heap.size + 1, 0, none⟩), .pointer (some ⟨W.heap.size, 0, none⟩), .pointer (some ⟨W.heap.size + 1 + 1 + 1 + 1, 0, none⟩)]] 76 (0, 0)) q)
  have HB0 := Lib.hid hb0
  have HG0 := Lib.hid hg0
  clear hg0
  by_cases hpc : pc < n
  · have hw1 : words n = 1 := by unfold words; rw [if_neg (by omega)]
    have hc1 : ∀ s, setCells n s = #[.int .u64 s] := fun s => by unfold setCells; rw [if_neg (by omega)]
    have HC1 := Lib.hid hc1
    have HQ : ∀ q, Aside0 (Srch ((((((W.alloc (.cells #[.slice (some ⟨GR, 0, none⟩) n n] 66)).alloc (.cells #[.func (.func fb) #[] cap] 74)).alloc (.cells (setCells n 0) 77)).drewN q).alloc (.cells #[.slice (some ⟨W.heap.size + 1 + 1, 0, none⟩) (words n) (words n)] 72)).alloc (.cells #[.func (.func 77) #[] #[.pointer (some ⟨W.heap.size + 1 + 1 + 1, 0, none⟩), .pointer (some ⟨W.heap.size + 1, 0, none⟩), .pointer (some ⟨W.heap.size, 0, none⟩), .pointer (some ⟨W.heap.size + 1 + 1 + 1 + 1, 0, none⟩)]] 76)) B n GR s0 (W.heap.size + 1 + 1) (W.heap.size + 1 + 1 + 1) (W.heap.size + 1) W.heap.size (W.heap.size + 1 + 1 + 1 + 1) rv ll fb cap) := fun q =>
      ⟨⟨by have := spw3 W (.cells #[.slice (some ⟨GR, 0, none⟩) n n] 66 (0, 0)) (.cells #[.func (.func fb) #[] cap] 74 (0, 0)) (.cells (setCells n 0) 77 (0, 0)) (.cells #[.slice (some ⟨W.heap.size + 1 + 1, 0, none⟩) (words n) (words n)] 72 (0, 0)) (.cells #[.func (.func 77) #[] #[.pointer (some ⟨W.heap.size + 1 + 1 + 1, 0, none⟩), .pointer (some ⟨W.heap.size + 1, 0, none⟩), .pointer (some ⟨W.heap.size, 0, none⟩), .pointer (some ⟨W.heap.size + 1 + 1 + 1 + 1, 0, none⟩)]] 76 (0, 0)) q
           rw [this, hw1],
         spw1 _ _ _ _ _ _ _, spw0 _ _ _ _ _ _ _, spw4 _ _ _ _ _ _ _, ((hb0 q).block _ (blk_lt hR.hG)).trans hR.hG, fun i hi => own_move (hR.rows i hi) fun k hk => (hb0 q).block k (own_lt (hR.rows i hi) k hk), hR.lt, hR.len⟩⟩
    have HBAR := Aside0.mk hbar
    have HEN := hen
    have HW1 := Aside0.mk hw1
    clear hbar hb0 hc1 hR hw1
    go_enter Try.func47, Try.ntmps47
    go_wp2_with (first | (go_at_call 49; refine (set_none n hn _).mono ?_; rintro e w' ⟨rfl, q, rfl⟩) | (go_at_call 77; (refine (come_any B n GR s0 (W.heap.size + 1 + 1) (W.heap.size + 1 + 1 + 1) (W.heap.size + 1) W.heap.size (W.heap.size + 1 + 1 + 1 + 1) rv ll fb cap bar hn (fun X => W.heap.size ≤ X.heap.size ∧ ∀ k, k < W.heap.size → X.heap[k]? = W.heap[k]?) (fun X X' s hJ hg ho => ⟨Nat.le_trans hJ.1 (ho.below 0 (by omega)).size, fun k hk => (ho.keep k (by omega) (by omega)).trans (hJ.2 k hk)⟩) HEN (fun X p hJ hp => HBAR.out X p hJ.2 hp) (AG.miss n 0 + 1) 0 pc _ (by omega) hpc (Nat.two_pow_pos n) (HQ _).out ⟨(HB0.out _).size, fun k hk => (HB0.out _).block k hk⟩ ((HG0.out _).trans (by rw [HC1.out]))).mono ?_; rintro e w' ⟨rfl, s', hs', hg', ho', hp'⟩; have hcs : w'.cell? ⟨W.heap.size + 1 + 1 + 1, 0, none⟩ = some (.slice (some ⟨W.heap.size + 1 + 1, 0, none⟩) (words n) (words n)) := (blk_cell ((HQ _).out.step (s := 0) ((HG0.out _).trans (by rw [HC1.out])) ho').hS 0).trans (by rw [HW1.out]; rfl); have hs' := Aside0.mk hs'; have hg' := Aside0.mk hg'; have ho' := Aside0.mk ho'; have hp' := Aside0.mk hp')))
    go_ret
    exact ⟨_, s', rfl, by omega, by rw [HC1.out]; exact hg'.out, hs'.out, (HB0.out _).trans (ho'.out.below _ (by omega)), fun x => ⟨fun h => ⟨hpc, (hp'.out.all x).1 h⟩, fun h => (hp'.out.all x).2 h.2⟩⟩
  · go_enter Try.func47, Try.ntmps47
    go_wp2_with (first | (go_at_call 49; refine (set_none n hn _).mono ?_; rintro e w' ⟨rfl, q, rfl⟩))
    go_ret
    exact ⟨_, 0, rfl, by omega, HG0.out _, Nat.two_pow_pos n, HB0.out _, fun q => ⟨fun h => absurd h (AG.has_zero q), fun h => absurd h.1 hpc⟩⟩
end Go.Proofs.Ytbcmckfceeakhaa.Gv
end

section
set_option linter.unusedVariables false
set_option linter.unusedSimpArgs false
namespace Go.Proofs.Ytbcmckfceeakhaa.Gv
open Go.RowKit Go.Proofs.YtbcmckfceeakhaaW.PrintWords

theorem free_any (X : World) (p : Int) : Calls Try.prog 48 (#[.int .i64 p] ++ #[]) X fun e w' => e = .returned (.bool false) ∧ ∃ q, w' = X.drewN q := by
  show Calls Try.prog 48 #[.int .i64 p] X _
  go_enter Try.func48, Try.ntmps48
  go_wp2
  go_ret
  exact ⟨rfl, 0, rfl⟩
theorem enters48 (args : Array Value) (W : World) : (callFunc 48 args).run Try.prog W = .ok (.enter 48 args) W := by
  simp [enters_of Try.func48 (by kernel_rfl) rfl args W]
/-- Where a place may go on; from where it may be come to. -/
noncomputable def nxL (l : List Int) : Nat → List Nat := fun i => (webA l l.length (0 + i)).map Int.toNat
noncomputable def bkL (l : List Int) : Nat → List Nat := fun i => (webA l l.length (l.length + i)).map Int.toNat
theorem web_len {l : List Int} (hok : okW l) (i : Nat) : (webA l l.length i).length ≤ 1000000 := by
  unfold webA
  split
  · have := nextL_len l i; omega
  · have := bkAll_len l l.length ((i : Int) - l.length)
    have := hok.1
    omega
theorem web_lt {l : List Int} (hok : okW l) (i : Nat) : ∀ x ∈ webA l l.length i, 0 ≤ x ∧ x < l.length := by
  intro x hx
  unfold webA at hx
  split at hx
  · exact nextL_lt hok hx
  · unfold bkAll at hx
    obtain ⟨r, hr, hxr⟩ := List.mem_flatten.1 hx
    obtain ⟨p, hp, rfl⟩ := List.mem_map.1 hr
    obtain ⟨_, _, rfl⟩ := List.mem_map.1 hxr
    have := List.mem_range.1 hp
    omega
theorem rows_next {W : World} {B G1 G2 : Nat} {l : List Int} {rv : Nat → Value} (hok : okW l) (h : WebOwn W B l.length G1 G2 rv (webA l l.length)) : Rows W B l.length G1 0 rv (webA l l.length) :=
  ⟨h.h1, fun i hi => h.rows (0 + i) (by omega), fun i _ => web_lt hok _, fun i _ => web_len hok _⟩
theorem rows_back {W : World} {B G1 G2 : Nat} {l : List Int} {rv : Nat → Value} (hok : okW l) (h : WebOwn W B l.length G1 G2 rv (webA l l.length)) : Rows W B l.length G2 l.length rv (webA l l.length) :=
  ⟨h.h2, fun i hi => h.rows (l.length + i) (by omega), fun i _ => web_lt hok _, fun i _ => web_len hok _⟩
theorem set_hasN {W : World} {g s p n : Nat} (hn : n ≤ 64) (hp : p < n) (hs : s < 2 ^ n) (h : W.heap[g]? = some (.cells (setCells n s) 77 (0, 0))) :
    Calls Try.prog 52 #[.slice (some ⟨g, 0, none⟩) (words n) (words n), .int .i64 p] W fun e w' => e = .returned (.bool (s.testBit p)) ∧ ∃ q, w' = W.drewN q := by
  have e1 : words n = 1 := by unfold words; rw [if_neg (by omega)]
  have e2 : setCells n s = #[.int .u64 s] := by unfold setCells; rw [if_neg (by omega)]
  rw [e1]
  rw [e2] at h
  exact set_has (by omega) (Nat.lt_of_lt_of_le hs (Nat.pow_le_pow_right (by decide) (show n ≤ 64 from hn))) h
theorem set_putN {W : World} {g s p n : Nat} (hn : n ≤ 64) (hp : p < n) (hs : s < 2 ^ n) (h : W.heap[g]? = some (.cells (setCells n s) 77 (0, 0))) :
    Calls Try.prog 50 #[.slice (some ⟨g, 0, none⟩) (words n) (words n), .int .i64 p] W fun e w' => e = .returned (.tuple #[]) ∧ ∃ q, w' = (W.setCell ⟨g, 0, none⟩ (.int .u64 (s ||| 2 ^ p : Nat))).drewN q := by
  have e1 : words n = 1 := by unfold words; rw [if_neg (by omega)]
  have e2 : setCells n s = #[.int .u64 s] := by unfold setCells; rw [if_neg (by omega)]
  rw [e1]
  rw [e2] at h
  exact set_put (by omega) (Nat.lt_of_lt_of_le hs (Nat.pow_le_pow_right (by decide) (show n ≤ 64 from hn))) h
theorem setCells_set {W : World} {g s t p n : Nat} (hp : p < n) (h : W.heap[g]? = some (.cells (setCells n s) 77 (0, 0))) (q : Nat) : ((W.setCell ⟨g, 0, none⟩ (.int .u64 (t : Nat))).drewN q).heap[g]? = some (.cells (setCells n t) 77 (0, 0)) := by
  have e2 : ∀ s, setCells n s = #[.int .u64 s] := fun s => by unfold setCells; rw [if_neg (by omega)]
  rw [e2] at h ⊢
  exact blk_drewN (blk_put h 0 _ rfl) q
theorem hdr_congr {n s : Nat} {f g : Nat → Value} (h : ∀ i, i < n → f (s + i) = g (s + i)) : hdr n s f = hdr n s g := by
  unfold hdr
  congr 1
  apply List.map_congr_left
  intro i hi
  exact h i (List.mem_range.1 hi)
theorem info4 : (Try.prog.info? 4).map (fun i => (i.zero, i.size, i.bytes)) = some (some (.bool false), 1, 1) := by kernel_rfl
theorem made_hdr' (v : Value) (n s : Nat) : madeCells #[v] n = hdr n s (fun _ => v) := by
  apply Array.ext_getElem?
  intro j
  by_cases hj : j < n
  · rw [hdr_get _ hj]; simp [madeCells, hj, Nat.mod_one]
  · simp [madeCells, hdr, hj]
set_option maxRecDepth 100000 in
set_option maxHeartbeats 4000000 in
theorem reached_any (A0 : Option Addr) (c0 : Nat) (l0 : List Int) (w : World) (hr0 : Kd.C (Kd.int .u32) w A0 l0.length l0) (hok : okW l0) :
    Calls Try.prog 23 #[.slice A0 l0.length c0] w fun e w' => ∃ g s, e = .returned (.slice (some ⟨g, 0, none⟩) l0.length l0.length) ∧ w.heap.size ≤ g ∧ w'.heap[g]? = some (.cells (hdr l0.length 0 fun i => .bool (s.testBit i)) 4 (0, 0)) ∧
      (∀ q, AG.has s q ↔ 0 < l0.length ∧ AG.Reached (nxL l0) q) ∧ Below w.heap.size w w' := by
  have hl := hok.1
  have hmk : ∀ W : World, (Instr.makeSlice 24 (.int .i64 l0.length) (.int .i64 l0.length)).run Try.prog W = .ok (.slice (some ⟨W.heap.size, 0, none⟩) l0.length l0.length) (W.alloc (.cells (hdr l0.length 0 (fun _ => .bool false)) 4)) := by
    intro W
    rw [← made_hdr' (.bool false) l0.length 0]
    exact run_make_row' 24 4 (.bool false) 1 Try.underlying24 info4 rfl .i64 .i64 l0.length (by omega) (by omega) W
  have HR := Aside0.mk hr0
  have HOK := Aside0.mk hok
  clear hr0 hok
  have hfld : ∀ (x y : Value) (W : World), (Instr.field 68 (.agg #[x, y]) 0).run Try.prog W = .ok x W := fun _ _ _ => by kernel_rfl
  go_enter Try.func23, Try.ntmps23
  go_wp2_with (first | (go_at_call 45; refine (weave_any A0 c0 l0 _ HR.out HOK.out).mono ?_; rintro e w1 ⟨G1, G2, rv, rfl, hO, hb⟩; have HO := Aside0.mk hO; have HB := Aside0.mk hb; clear hO hb) | (go_at_call 47; refine (spread_any _ l0.length G1 0 0 rv _ 48 #[] (fun _ => false) hl _ (rows_next HOK.out HO.out) enters48 (fun X p _ _ => free_any X p)).mono ?_; rintro e w2 ⟨gs, s, rfl, hgs, hs, hs2, hb2, hS⟩; have HGS := Aside0.mk hgs; have HS := Aside0.mk hs; have HS2 := Aside0.mk hs2; have HB2 := Aside0.mk hb2; have HX := Aside0.mk hS; clear hgs hs hs2 hb2 hS))
  have HN := Aside0.mk (blk_new w2 (.cells (hdr l0.length 0 fun _ => .bool false) 4))
  have HT := Aside0.mk (blk_alloc HS.out (.cells (hdr l0.length 0 fun _ => .bool false) 4))
  have HBB := Aside0.mk (below_alloc (HB.out.trans (HB2.out.mono HB.out.size)) (.cells (hdr l0.length 0 fun _ => .bool false) 4))
  have HWS := Aside0.mk (show w.heap.size ≤ w2.heap.size from (HB.out.trans (HB2.out.mono HB.out.size)).size)
  go_loopw [15] (fun i wr => ∃ p : Nat, p ≤ l0.length ∧ i = .int .i64 p ∧ Aside0 (wr.heap[w2.heap.size]? = some (.cells (hdr l0.length 0 fun i => .bool (if i < p then s.testBit i else false)) 4 (0, 0))) ∧
    Aside0 (wr.heap[gs]? = some (.cells (setCells l0.length s) 77 (0, 0))) ∧ Aside0 (Below w.heap.size w wr)) (fun i _ => l0.length - (intOf i).toNat)
  case atStart => exact ⟨0, by omega, rfl, ⟨by simpa using HN.out⟩, HT, HBB⟩
  case round =>
    clear HN HT HBB HB HO
    obtain ⟨p, hp, rfl, HN, HT, HBB⟩ := hrel
    by_cases hlt : p < l0.length
    · have hf : ∀ q, (wr.drewN q).frozen? ⟨w2.heap.size, p, none⟩ = false := fun q => blk_frozen (blk_drewN HN.out q) p
      have hc : ∀ q, (wr.drewN q).cell? ⟨w2.heap.size, p, none⟩ = some (.bool false) := fun q => (blk_cell (blk_drewN HN.out q) p).trans ((hdr_get _ hlt).trans (by simp))
      go_wp2_with (first | (go_at_call 52; refine (set_hasN hl hlt HS2.out HT.out).mono ?_; rintro e w' ⟨rfl, q, rfl⟩))
      go_roundw
      case rel =>
        refine ⟨p + 1, by omega, by go_num, ⟨blk_put (blk_drewN HN.out q) p _ ?_⟩, ⟨blk_far (blk_drewN HT.out q) (p := ⟨w2.heap.size, p, none⟩) (blk_ne (blk_drewN HT.out q) (blk_drewN HN.out q) (by decide)) _⟩, ⟨(pw_below_drewN HBB.out q).setCell (p := ⟨w2.heap.size, p, none⟩) HWS.out _⟩⟩
        rw [hdr_set]
        apply hdr_congr
        intro i hi
        unfold up
        rw [Nat.zero_add, Nat.zero_add]
        by_cases e : i = p
        · subst e; simp
        · rw [if_neg e]
          show Value.bool (if i < p then _ else _) = _
          by_cases h : i < p
          · rw [if_pos h, if_pos (by omega)]
          · rw [if_neg h, if_neg (by omega)]
      case measure => simp [intOf]; omega
    · obtain rfl : p = l0.length := by omega
      go_wp2_with fail
      go_ret
      refine ⟨_, s, rfl, HWS.out, HN.out.trans ?_, fun q => (HX.out q).trans ⟨fun h => ⟨h.1, h.2.weaken fun _ _ => by first | trivial | rfl⟩, fun h => ⟨h.1, h.2.weaken fun _ _ => by first | trivial | rfl⟩⟩, HBB.out⟩
      rw [hdr_congr (g := fun i => .bool (s.testBit i)) fun i hi => by show Value.bool (if 0 + i < _ then _ else _) = _; rw [if_pos (by omega)]]
end Go.Proofs.Ytbcmckfceeakhaa.Gv
namespace Go.Proofs.Ytbcmckfceeakhaa.Gv
open Go.RowKit Go.Proofs.YtbcmckfceeakhaaW.PrintWords
theorem own_of_hdr {W : World} {B g e n : Nat} {f : Nat → Value} {vs : List Value} (hg : B ≤ g) (h : W.heap[g]? = some (.cells (hdr n 0 f) e (0, 0))) (hn : n ≤ maxLen) (hv : vs = (List.range n).map f) :
    W.ownsRow B e 1 (.slice (some ⟨g, 0, none⟩) n n) n vs := by
  subst hv
  refine ⟨by simp, .inr ⟨g, n, _, rfl, hg, h, Nat.le_refl _, hn, by simp [hdr], ?_⟩⟩
  simp only [hdr, Nat.zero_add, Nat.mul_one]
  exact List.take_of_length_le (by simp)
open Classical in
noncomputable def reachL (l : List Int) : List Bool := (List.range l.length).map fun p => decide (AG.Reached (nxL l) p)
open Classical in
noncomputable def graph_Reached.f (l0 : List Int) : Option (List Bool) := if okW l0 then some (reachL l0) else none
open Classical in
theorem graph_Reached.calls (A0 : Option Addr) (c0 : Nat) (l0 : List Int) (r : List Bool) (w : World) (hr0 : Kd.C (Kd.int .u32) w A0 l0.length l0) (hc0 : l0.length ≤ c0) (h : graph_Reached.f l0 = some r) :
    Calls Try.prog 23 #[.slice A0 l0.length c0] w fun e w' => ∃ v0_ : Value, e = .returned (v0_) ∧ Kd.R Kd.bool 4 w' w.heap.size (fun _ => True) v0_ r ∧ Below w.heap.size w w' := by
  unfold graph_Reached.f at h
  by_cases hok : okW l0
  · rw [if_pos hok] at h
    cases h
    refine (reached_any A0 c0 l0 w hr0 hok).mono ?_
    rintro e w' ⟨g, s, rfl, hg, hb, hs, hB⟩
    refine ⟨_, rfl, ?_, hB⟩
    have hlen : (reachL l0).length = l0.length := by simp [reachL]
    have henc : (reachL l0).map Value.bool = (List.range l0.length).map fun i => Value.bool (s.testBit i) := by
      unfold reachL
      rw [List.map_map]
      apply List.map_congr_left
      intro i hi
      have hi' := List.mem_range.1 hi
      refine congrArg Value.bool ?_
      have := hs i
      unfold AG.has at this
      by_cases hx : s.testBit i = true
      · rw [hx]; exact decide_eq_true (this.1 hx).2
      · rw [Bool.not_eq_true] at hx
        rw [hx]
        refine decide_eq_false fun hh => ?_
        have := this.2 ⟨by omega, hh⟩
        rw [hx] at this; cases this
    have h1 := Kd.R_of_own (h1 := fun _ => rfl) (enc := Value.bool) (e := 4) (w := w') (base := w.heap.size) (ok := fun _ => True) (v := .slice (some ⟨g, 0, none⟩) l0.length l0.length) (xs := reachL l0)
      (by rw [hlen]; exact own_of_hdr hg hb (by have := hok.1; unfold maxLen; omega) henc) (fun _ _ => trivial)
    exact h1
  · rw [if_neg hok] at h; cases h
end Go.Proofs.Ytbcmckfceeakhaa.Gv
end

section
set_option linter.unusedVariables false
set_option linter.unusedSimpArgs false
namespace Go.Proofs.Ytbcmckfceeakhaa.Gv
open Go.RowKit Go.Proofs.YtbcmckfceeakhaaW.PrintWords

theorem words_one {p n : Nat} (h : p < n) : words n = 1 := by unfold words; rw [if_neg (by omega)]
theorem setCells_one {p n : Nat} (h : p < n) (s : Nat) : setCells n s = #[.int .u64 s] := by unfold setCells; rw [if_neg (by omega)]
theorem pow_le64 {s n : Nat} (hn : n ≤ 64) (hs : s < 2 ^ n) : s < 18446744073709551616 := Nat.lt_of_lt_of_le hs (Nat.pow_le_pow_right (by decide) (show n ≤ 64 from hn))
theorem set_none' (n : Nat) (hn : n ≤ 64) (w : World) :
    Calls Try.prog 49 #[.int .i64 n] w fun e w' => e = .returned (.slice (some ⟨w.heap.size, 0, none⟩) (words n) (words n)) ∧ w'.heap[w.heap.size]? = some (.cells (setCells n 0) 77 (0, 0)) ∧ Below w.heap.size w w' := by
  refine (set_none n hn w).mono ?_
  rintro e w' ⟨rfl, q, rfl⟩
  exact ⟨rfl, blk_drewN (blk_new _ _) _, pw_below_drewN (below_alloc (Below.refl _ _) _) _⟩
theorem set_put0 {W : World} {g n : Nat} (hn : n ≤ 64) (hp : 0 < n) (h : W.heap[g]? = some (.cells (setCells n 0) 77 (0, 0))) :
    Calls Try.prog 50 #[.slice (some ⟨g, 0, none⟩) (words n) (words n), .int .i64 0] W fun e w' => e = .returned (.tuple #[]) ∧ ∃ q, w' = (W.setCell ⟨g, 0, none⟩ (.int .u64 (1 : Nat))).drewN q :=
  set_putN hn hp (Nat.two_pow_pos n) h
theorem set_putO {W : World} {g s p n : Nat} (hn : n ≤ 64) (hp : p < n) (hs : s < 2 ^ n) (h : W.heap[g]? = some (.cells (setCells n s) 77 (0, 0))) :
    Calls Try.prog 50 #[.slice (some ⟨g, 0, none⟩) (words n) (words n), .int .i64 p] W fun e w' => e = .returned (.tuple #[]) ∧ w'.heap[g]? = some (.cells (setCells n (s ||| 2 ^ p)) 77 (0, 0)) ∧ Only g W w' := by
  refine (set_putN hn hp hs h).mono ?_
  rintro e w' ⟨rfl, q, rfl⟩
  exact ⟨rfl, setCells_set hp h q, ((Only.refl _ _).put _).drewN q⟩
theorem all_step (p : Nat) : (2 ^ p - 1) ||| 2 ^ p = 2 ^ (p + 1) - 1 := AG.has_ext fun q => by
  rw [AG.has_put, AG.has_all, AG.has_all]; omega
set_option maxRecDepth 100000 in
set_option maxHeartbeats 4000000 in
theorem set_all (n : Nat) (hn : n ≤ 64) (w : World) :
    Calls Try.prog 78 #[.int .i64 n] w fun e w' => e = .returned (.slice (some ⟨w.heap.size, 0, none⟩) (words n) (words n)) ∧ w'.heap[w.heap.size]? = some (.cells (setCells n (2 ^ n - 1)) 77 (0, 0)) ∧ Below w.heap.size w w' := by
  go_enter Try.func78, Try.ntmps78
  go_wp2_with (first | (go_at_call 49; refine (set_none n hn _).mono ?_; rintro e w' ⟨rfl, q, rfl⟩))
  have HN := Aside0.mk (blk_drewN (blk_new w (.cells (setCells n 0) 77 (0, 0))) q)
  have HB := Aside0.mk (pw_below_drewN (below_alloc (Below.refl w.heap.size w) (.cells (setCells n 0) 77 (0, 0))) q)
  go_loopw [8] (fun i wr => ∃ p : Nat, p ≤ n ∧ i = .int .i64 p ∧ Aside0 (wr.heap[w.heap.size]? = some (.cells (setCells n (2 ^ p - 1)) 77 (0, 0))) ∧ Aside0 (Below w.heap.size w wr)) (fun i _ => n - (intOf i).toNat)
  case atStart => exact ⟨0, by omega, rfl, HN, HB⟩
  case round =>
    clear HN HB
    obtain ⟨p, hp, rfl, HN, HB⟩ := hrel
    by_cases hlt : p < n
    · have hpl : 2 ^ p - 1 < 2 ^ n := Nat.lt_of_le_of_lt (Nat.sub_le _ _) (Nat.pow_lt_pow_right (a := 2) (by decide) hlt)
      have HPL := Aside0.mk hpl
      clear hpl
      go_wp2_with (first | (go_at_call 50; refine (set_putN hn hlt HPL.out HN.out).mono ?_; rintro e w' ⟨rfl, q2, rfl⟩))
      go_roundw
      case rel => exact ⟨p + 1, by omega, by go_num, ⟨by rw [← all_step]; exact setCells_set hlt HN.out _⟩, ⟨pw_below_drewN (HB.out.setCell (p := ⟨w.heap.size, 0, none⟩) (Nat.le_refl _) _) _⟩⟩
      case measure => simp [intOf]; omega
    · obtain rfl : p = n := by omega
      go_wp2_with fail
      go_ret
      exact ⟨rfl, HN.out, HB.out⟩
set_option maxRecDepth 100000 in
set_option maxHeartbeats 4000000 in
theorem set_meet {W : World} {g h s t n p : Nat} (hn : n ≤ 64) (hp : p < n) (hs : s < 2 ^ n) (ht : t < 2 ^ n) (hg : W.heap[g]? = some (.cells (setCells n s) 77 (0, 0))) (hh : W.heap[h]? = some (.cells (setCells n t) 77 (0, 0))) :
    Calls Try.prog 79 #[.slice (some ⟨g, 0, none⟩) (words n) (words n), .slice (some ⟨h, 0, none⟩) (words n) (words n)] W fun e w' => e = .returned (.tuple #[]) ∧ w'.heap[g]? = some (.cells (setCells n (s &&& t)) 77 (0, 0)) ∧ Only g W w' := by
  rw [words_one hp, setCells_one hp]
  rw [setCells_one hp] at hg hh
  have c1 : W.cell? ⟨g, 0, none⟩ = some (.int .u64 s) := blk_cell hg 0
  have c2 : W.cell? ⟨h, 0, none⟩ = some (.int .u64 t) := blk_cell hh 0
  have hf : W.frozen? ⟨g, 0, none⟩ = false := blk_frozen hg 0
  have e4 := bits_and_u64_nat s t (pow_le64 hn hs) (pow_le64 hn ht)
  have HG := Aside0.mk hg
  clear hg hh
  go_enter Try.func79, Try.ntmps79
  go_wp2_with fail
  refine wp_loop_rounds 2 ?_
  rw [rounds_succ]
  go_wp2_with fail
  go_region
  all_goals
    go_wp2_with fail
    rw [rounds_succ]
    go_wp2_with fail
    go_end0
    refine ⟨rfl, by first | exact blk_put HG.out 0 _ rfl | exact blk_drewN (blk_put HG.out 0 _ rfl) _ | exact blk_drew (blk_put (blk_drew HG.out) 0 _ rfl), by first | exact (Only.refl _ _).put _ | exact ((Only.refl _ _).put _).drewN _ | exact (((Only.refl _ _).drew).put _).drew⟩
theorem set_equal {W : World} {g h s t n p : Nat} (hn : n ≤ 64) (hp : p < n) (hg : W.heap[g]? = some (.cells (setCells n s) 77 (0, 0))) (hh : W.heap[h]? = some (.cells (setCells n t) 77 (0, 0))) :
    Calls Try.prog 80 #[.slice (some ⟨g, 0, none⟩) (words n) (words n), .slice (some ⟨h, 0, none⟩) (words n) (words n)] W fun e w' => e = .returned (.bool (decide (s = t))) ∧ ∃ q, w' = W.drewN q := by
  rw [words_one hp]
  rw [setCells_one hp] at hg hh
  have c1 : W.cell? ⟨g, 0, none⟩ = some (.int .u64 s) := blk_cell hg 0
  have c2 : W.cell? ⟨h, 0, none⟩ = some (.int .u64 t) := blk_cell hh 0
  clear hg hh
  by_cases e : s = t
  · subst e
    go_enter Try.func80, Try.ntmps80
    go_wp2_with fail
    refine wp_loop_rounds 2 ?_
    rw [rounds_succ]
    go_wp2_with fail
    go_region
    all_goals
      go_wp2_with fail
      rw [rounds_succ]
      go_wp2_with fail
      go_ret
      exact ⟨by simp, 1, rfl⟩
  · go_enter Try.func80, Try.ntmps80
    go_wp2_with fail
    refine wp_loop_rounds 2 ?_
    rw [rounds_succ]
    go_wp2_with fail
    go_region
    all_goals
      go_wp2_with fail
      go_ret
      exact ⟨by simp [e], 1, rfl⟩
end Go.Proofs.Ytbcmckfceeakhaa.Gv
end

section
set_option linter.unusedVariables false
set_option linter.unusedSimpArgs false
namespace Go.Proofs.Ytbcmckfceeakhaa.Gv

theorem nxL_eq {l : List Int} {q : Nat} (hq : q < l.length) : nxL l q = (nextL l q).map Int.toNat := by
  unfold nxL webA
  rw [Nat.zero_add, if_pos hq, if_pos hq]
theorem bkL_eq (l : List Int) (p : Nat) : bkL l p = (bkAll l l.length (p : Int)).map Int.toNat := by
  unfold bkL webA
  rw [if_neg (by omega)]
  congr 2
  omega
theorem nx_mem {l : List Int} (hok : okW l) {p q : Nat} (hq : q < l.length) : p ∈ nxL l q ↔ (p : Int) ∈ nextL l q := by
  rw [nxL_eq hq, List.mem_map]
  constructor
  · rintro ⟨x, hx, rfl⟩
    have := nextL_lt hok hx
    rwa [Int.toNat_of_nonneg this.1]
  · exact fun h => ⟨_, h, Int.toNat_natCast p⟩
theorem bk_mem {l : List Int} {p q : Nat} : q ∈ bkL l p ↔ q < l.length ∧ (p : Int) ∈ nextL l q := by
  rw [bkL_eq, List.mem_map]
  unfold bkAll
  constructor
  · rintro ⟨x, hx, rfl⟩
    obtain ⟨r, hr, hxr⟩ := List.mem_flatten.1 hx
    obtain ⟨p', hp', rfl⟩ := List.mem_map.1 hr
    obtain ⟨y, hy, rfl⟩ := List.mem_map.1 hxr
    obtain ⟨h1, h2⟩ := List.mem_filter.1 hy
    obtain rfl := (beq_iff_eq.1 h2)
    rw [Int.toNat_natCast]
    exact ⟨List.mem_range.1 hp', h1⟩
  · rintro ⟨h1, h2⟩
    refine ⟨(q : Int), List.mem_flatten.2 ⟨_, List.mem_map.2 ⟨q, List.mem_range.2 h1, rfl⟩, List.mem_map.2 ⟨(p : Int), List.mem_filter.2 ⟨h2, by simp⟩, rfl⟩⟩, Int.toNat_natCast q⟩
theorem bk_iff {l : List Int} (hok : okW l) {p q : Nat} : q ∈ bkL l p ↔ q < l.length ∧ p ∈ nxL l q := by
  rw [bk_mem]
  exact ⟨fun h => ⟨h.1, (nx_mem hok h.1).2 h.2⟩, fun h => ⟨h.1, (nx_mem hok h.1).1 h.2⟩⟩
theorem nx_lt {l : List Int} (hok : okW l) {p q : Nat} (h : p ∈ nxL l q) : p < l.length := by
  unfold nxL at h
  obtain ⟨x, hx, rfl⟩ := List.mem_map.1 h
  have := web_lt hok _ x hx
  omega
theorem reached_lt {l : List Int} (hok : okW l) (h0 : 0 < l.length) {p : Nat} (h : AG.Reached (nxL l) p) : p < l.length :=
  AG.Rch.closed (S := fun q => q < l.length) h h0 fun _ _ _ hq _ => nx_lt hok hq
end Go.Proofs.Ytbcmckfceeakhaa.Gv
end

section
set_option linter.unusedVariables false
set_option linter.unusedSimpArgs false
namespace Go.Proofs.Ytbcmckfceeakhaa.Gv
open Go.RowKit Go.Proofs.YtbcmckfceeakhaaW.PrintWords

/-- What stands while the sets of those ahead are made. -/
structure AH (W wr : World) (B n G1 G2 bw gr sR H : Nat) (rv : Nat → Value) (ll : Nat → List Int) (ov : Nat → Value) (os : Nat → Nat) (k : Nat) : Prop where
  hw : wr.heap[bw]? = some (.cells #[.slice (some ⟨G1, 0, none⟩) n n, .slice (some ⟨G2, 0, none⟩) n n] 68 (0, 0))
  ho : WebOwn wr B n G1 G2 rv ll
  hr : wr.heap[gr]? = some (.cells (setCells n sR) 77 (0, 0))
  hH : wr.heap[H]? = some (.cells (hdr n 0 ov) 72 (0, 0))
  outs : ∀ i, i < k → ∃ g, ov i = .slice (some ⟨g, 0, none⟩) (words n) (words n) ∧ wr.heap[g]? = some (.cells (setCells n (os i)) 77 (0, 0))
  lt : ∀ i, i < k → os i < 2 ^ n
  base : W.heap.size ≤ H
  below : Below W.heap.size W wr
section
variable {W wr w' : World} {B n G1 G2 bw gr sR H : Nat} {rv : Nat → Value} {ll : Nat → List Int} {ov : Nat → Value} {os : Nat → Nat} {k : Nat}
theorem AH.step (h : AH W wr B n G1 G2 bw gr sR H rv ll ov os k) (hb : Below wr.heap.size wr w') : AH W w' B n G1 G2 bw gr sR H rv ll ov os k :=
  ⟨(hb.block _ (blk_lt h.hw)).trans h.hw, h.ho.below hb, (hb.block _ (blk_lt h.hr)).trans h.hr, (hb.block _ (blk_lt h.hH)).trans h.hH,
   fun i hi => let ⟨g, h1, h2⟩ := h.outs i hi; ⟨g, h1, (hb.block _ (blk_lt h2)).trans h2⟩, h.lt, h.base, h.below.trans (hb.mono h.below.size)⟩
theorem AH.drewN (h : AH W wr B n G1 G2 bw gr sR H rv ll ov os k) (q : Nat) : AH W (wr.drewN q) B n G1 G2 bw gr sR H rv ll ov os k := h.step (pw_below_drewN (Below.refl _ _) q)
theorem AH.less {k' : Nat} (h : AH W wr B n G1 G2 bw gr sR H rv ll ov os k) (hk : k' ≤ k) : AH W wr B n G1 G2 bw gr sR H rv ll ov os k' :=
  ⟨h.hw, h.ho, h.hr, h.hH, fun i hi => h.outs i (by omega), fun i hi => h.lt i (by omega), h.base, h.below⟩
theorem AH.put (h : AH W wr B n G1 G2 bw gr sR H rv ll ov os k) {p g s k' : Nat} (hk : ∀ i, i < k' → i = p ∨ i < k) (hg : wr.heap[g]? = some (.cells (setCells n s) 77 (0, 0))) (hs : s < 2 ^ n) :
    AH W (wr.setCell ⟨H, p, none⟩ (.slice (some ⟨g, 0, none⟩) (words n) (words n))) B n G1 G2 bw gr sR H rv ll (up ov p (.slice (some ⟨g, 0, none⟩) (words n) (words n))) (up os p s) k' := by
  refine ⟨blk_far h.hw (p := ⟨H, p, none⟩) (blk_ne h.hw h.hH (by decide)) _, h.ho.far h.hH (by decide) (by decide) p _, blk_far h.hr (p := ⟨H, p, none⟩) (blk_ne h.hr h.hH (by decide)) _, ?_, fun i hi => ?_, fun i hi => ?_, h.base, h.below.setCell (p := ⟨H, p, none⟩) h.base _⟩
  · exact blk_put h.hH p _ (by rw [hdr_set, Nat.zero_add])
  · by_cases e : i = p
    · subst e; rw [up_same, up_same]; exact ⟨g, rfl, blk_far hg (p := ⟨H, i, none⟩) (blk_ne hg h.hH (by decide)) _⟩
    · rw [up_other _ _ e, up_other _ _ e]
      obtain ⟨g', h1, h2⟩ := h.outs i ((hk i hi).resolve_left e)
      exact ⟨g', h1, blk_far h2 (p := ⟨H, p, none⟩) (blk_ne h2 h.hH (by decide)) _⟩
  · by_cases e : i = p
    · subst e; rw [up_same]; exact hs
    · rw [up_other _ _ e]; exact h.lt i ((hk i hi).resolve_left e)
/-- The first set's own put. -/
theorem AH.first (h : AH W wr B n G1 G2 bw gr sR H rv ll ov os 1) {g t : Nat} (hn : 0 < n) (hv : ov 0 = .slice (some ⟨g, 0, none⟩) (words n) (words n)) (hgr : g ≠ gr) (hW : W.heap.size ≤ g) (ht : t < 2 ^ n) (q : Nat) :
    AH W ((wr.setCell ⟨g, 0, none⟩ (.int .u64 (t : Nat))).drewN q) B n G1 G2 bw gr sR H rv ll ov (up os 0 t) 1 := by
  obtain ⟨g', h1, h2⟩ := h.outs 0 (by omega)
  rw [hv] at h1
  injection h1 with h1 _ _
  injection h1 with h1
  injection h1 with h1 _ _
  subst h1
  refine AH.drewN ?_ q
  refine ⟨blk_far h.hw (p := ⟨g, 0, none⟩) (blk_ne h.hw h2 (by decide)) _, h.ho.far h2 (by decide) (by decide) 0 _, blk_far h.hr (p := ⟨g, 0, none⟩) (fun e => hgr e.symm) _, blk_far h.hH (p := ⟨g, 0, none⟩) (blk_ne h.hH h2 (by decide)) _, fun i hi => ?_, fun i hi => ?_, h.base, h.below.setCell (p := ⟨g, 0, none⟩) hW _⟩
  · obtain rfl : i = 0 := by omega
    rw [up_same]
    exact ⟨g, hv, setCells_set hn h2 0⟩
  · obtain rfl : i = 0 := by omega
    rw [up_same]; exact ht
theorem AH.cell (h : AH W wr B n G1 G2 bw gr sR H rv ll ov os k) {p : Nat} (hp : p < n) : wr.cell? ⟨H, p, none⟩ = some (ov p) := (blk_cell h.hH p).trans ((hdr_get _ hp).trans (by rw [Nat.zero_add]))
end
/-- The sets as the world holds them. -/
def osOf (wr : World) (H i : Nat) : Nat :=
  match wr.cell? ⟨H, i, none⟩ with
  | some (.slice (some a) _ _) => (match wr.cell? ⟨a.block, 0, none⟩ with | some (.int _ s) => s.toNat | _ => 0)
  | _ => 0
theorem AH.osOf {W wr : World} {B n G1 G2 bw gr sR H : Nat} {rv : Nat → Value} {ll : Nat → List Int} {ov : Nat → Value} {os : Nat → Nat} (h : AH W wr B n G1 G2 bw gr sR H rv ll ov os n) {i : Nat} (hi : i < n) : osOf wr H i = os i := by
  obtain ⟨g, h1, h2⟩ := h.outs i hi
  unfold Gv.osOf
  rw [h.cell hi, h1]
  show (match wr.cell? ⟨g, 0, none⟩ with | some (.int _ s) => s.toNat | _ => 0) = _
  rw [setCells_one hi] at h2
  rw [show wr.cell? ⟨g, 0, none⟩ = some (.int .u64 (os i)) from blk_cell h2 0]
  rfl
theorem tot_congr {n : Nat} {a b : Nat → Nat} : ∀ m, (∀ i, i < m → a i = b i) → AG.tot n a m = AG.tot n b m
  | 0, _ => rfl
  | m + 1, h => by unfold AG.tot; rw [tot_congr m fun i hi => h i (by omega), h m (by omega)]
end Go.Proofs.Ytbcmckfceeakhaa.Gv
namespace Go.Proofs.Ytbcmckfceeakhaa.Gv
theorem AH.congr {W wr : World} {B n G1 G2 bw gr sR H : Nat} {rv : Nat → Value} {ll : Nat → List Int} {ov : Nat → Value} {os os' : Nat → Nat} {k : Nat} (h : AH W wr B n G1 G2 bw gr sR H rv ll ov os k) (he : ∀ i, i < k → os i = os' i) : AH W wr B n G1 G2 bw gr sR H rv ll ov os' k :=
  ⟨h.hw, h.ho, h.hr, h.hH, fun i hi => by rw [← he i hi]; exact h.outs i hi, fun i hi => by rw [← he i hi]; exact h.lt i hi, h.base, h.below⟩
/-- The flag of a round. -/
def flagOf : Value → Nat
  | .bool true => 1
  | _ => 0
theorem AH.tot {W wr : World} {B n G1 G2 bw gr sR H : Nat} {rv : Nat → Value} {ll : Nat → List Int} {ov : Nat → Value} {os : Nat → Nat} (h : AH W wr B n G1 G2 bw gr sR H rv ll ov os n) : AG.tot n (Gv.osOf wr H) n = AG.tot n os n := tot_congr n fun _ hi => h.osOf hi
end Go.Proofs.Ytbcmckfceeakhaa.Gv
end

section
set_option linter.unusedVariables false
set_option linter.unusedSimpArgs false
namespace Go.Proofs.Ytbcmckfceeakhaa.Gv
open Go.RowKit Go.Proofs.YtbcmckfceeakhaaW.PrintWords

theorem info72 : (Try.prog.info? 72).map (fun i => (i.zero, i.size, i.bytes)) = some (some (.slice none 0 0), 1, 24) := by kernel_rfl
set_option maxRecDepth 100000 in
set_option maxHeartbeats 1000000 in
theorem aheads_any (l0 : List Int) (hok : okW l0) (W : World) (B G1 G2 : Nat) (rv : Nat → Value) (hO : WebOwn W B l0.length G1 G2 rv (webA l0 l0.length)) :
    Calls Try.prog 54 #[.agg #[.slice (some ⟨G1, 0, none⟩) l0.length l0.length, .slice (some ⟨G2, 0, none⟩) l0.length l0.length]] W fun e w' => ∃ bw gr sR H ov os, e = .returned (.slice (some ⟨H, 0, none⟩) l0.length l0.length) ∧
      AH W w' B l0.length G1 G2 bw gr sR H rv (webA l0 l0.length) ov os l0.length ∧ (∀ p, p < l0.length → ∀ a, AG.has (os p) a ↔ AG.Reached (nxL l0) p ∧ a < l0.length ∧ AG.Dom (nxL l0) a p) := by
  have hl := hok.1
  have hmk : ∀ W : World, (Instr.makeSlice 79 (.int .i64 l0.length) (.int .i64 l0.length)).run Try.prog W = .ok (.slice (some ⟨W.heap.size, 0, none⟩) l0.length l0.length) (W.alloc (.cells (hdr l0.length 0 (fun _ => .slice none 0 0)) 72)) := by
    intro W
    rw [← made_hdr' (.slice none 0 0) l0.length 0]
    exact run_make_row' 79 72 (.slice none 0 0) 24 Try.underlying79 info72 rfl .i64 .i64 l0.length (by omega) (by omega) W
  have HOK := Aside0.mk hok
  have HOW := Aside0.mk (hO.alloc (.cells #[.slice (some ⟨G1, 0, none⟩) l0.length l0.length, .slice (some ⟨G2, 0, none⟩) l0.length l0.length] 68 (0, 0)))
  have HBW := Aside0.mk (below_alloc (Below.refl W.heap.size W) (.cells #[.slice (some ⟨G1, 0, none⟩) l0.length l0.length, .slice (some ⟨G2, 0, none⟩) l0.length l0.length] 68 (0, 0)))
  have HWW := Aside0.mk (blk_new W (.cells #[.slice (some ⟨G1, 0, none⟩) l0.length l0.length, .slice (some ⟨G2, 0, none⟩) l0.length l0.length] 68 (0, 0)))
  have cw : (W.alloc (.cells #[.slice (some ⟨G1, 0, none⟩) l0.length l0.length, .slice (some ⟨G2, 0, none⟩) l0.length l0.length] 68 (0, 0))).cell? ⟨W.heap.size, 0, none⟩ = some (.slice (some ⟨G1, 0, none⟩) l0.length l0.length) := blk_cell HWW.out 0
  clear hO hok
  go_enter Try.func54, Try.ntmps54
  go_wp2_with (first | (go_at_call 47; refine (spread_any _ l0.length G1 0 0 rv _ 48 #[] (fun _ => false) hl _ (rows_next HOK.out (by first | exact HOW.out | exact HOW.out.drew)) enters48 (fun X p _ _ => free_any X p)).mono ?_; rintro e w2 ⟨gr, sR, rfl, hgs, hs, hs2, hb2, hS⟩; have HGS := Aside0.mk hgs; have HS := Aside0.mk hs; have HS2 := Aside0.mk hs2; have HB2 := Aside0.mk hb2; have HX := Aside0.mk hS; clear hgs hs hs2 hb2 hS))
  have HA0 := Aside0.mk (show AH W (w2.alloc (.cells (hdr l0.length 0 fun _ => .slice none 0 0) 72)) B l0.length G1 G2 W.heap.size gr sR w2.heap.size rv (webA l0 l0.length) (fun _ => .slice none 0 0) (fun _ => 0) 0 from
    ⟨blk_alloc ((HB2.out.block _ (blk_lt HWW.out)).trans HWW.out) _, (HOW.out.below HB2.out).alloc _, blk_alloc HS.out _, blk_new _ _, fun i hi => by omega, fun i hi => by omega, (HBW.out.trans (HB2.out.mono HBW.out.size)).size, below_alloc (HBW.out.trans (HB2.out.mono HBW.out.size)) _⟩)
  have HGR := Aside0.mk (show gr < w2.heap.size from blk_lt HS.out)
  clear hmk HOW HBW HWW HB2 HS HGS cw
  go_loopw [22] (fun i wr => ∃ (p : Nat) (ov : Nat → Value) (os : Nat → Nat), p ≤ l0.length ∧ i = .int .i64 p ∧ Aside0 (AH W wr B l0.length G1 G2 W.heap.size gr sR w2.heap.size rv (webA l0 l0.length) ov os p) ∧ Aside0 (∀ i, i < p → os i = AG.atStart l0.length i)) (fun i _ => l0.length - (intOf i).toNat)
  case atStart => exact ⟨0, _, _, by omega, rfl, HA0, ⟨fun i hi => by omega⟩⟩
  case round =>
    clear HA0
    obtain ⟨p, ov, os, hp, rfl, HA, HOS⟩ := hrel
    by_cases hlt : p < l0.length
    · have HPW := Aside0.mk (show 2 ^ l0.length - 1 < 2 ^ l0.length from Nat.sub_lt (Nat.two_pow_pos _) (by omega))
      by_cases hp0 : p = 0
      · subst hp0
        go_wp2_with (first | (go_at_call 78; refine (set_all l0.length hl _).mono ?_; rintro e w1 ⟨rfl, hg, hb⟩; have HG := Aside0.mk hg; have HA1 := Aside0.mk (HA.out.step hb); have c1 : w1.cell? ⟨w2.heap.size, 0, none⟩ = some (ov 0) := HA1.out.cell hlt; have c2 : w1.frozen? ⟨w2.heap.size, 0, none⟩ = false := blk_frozen HA1.out.hH 0; clear hg hb) | (go_at_call 49; refine (set_none' l0.length hl _).mono ?_; rintro e w3 ⟨rfl, hg3, hb3⟩; rw [World.size_setCell] at hg3; have HG3 := Aside0.mk hg3; have HP1 := Aside0.mk (HA1.out.put (p := 0) (k' := 1) (fun i hi => by omega) HG.out HPW.out); have HA3 := Aside0.mk (HP1.out.step hb3); have HW3 := Aside0.mk (show W.heap.size ≤ w1.heap.size ∧ w2.heap.size < w1.heap.size from ⟨HA1.out.below.size, blk_lt HA1.out.hH⟩); have c3 : w3.cell? ⟨w2.heap.size, 0, none⟩ = some (up ov 0 (.slice (some ⟨wr.heap.size, 0, none⟩) (words l0.length) (words l0.length)) 0) := HA3.out.cell hlt; have c4 : w3.frozen? ⟨w2.heap.size, 0, none⟩ = false := blk_frozen HA3.out.hH 0; rw [up_same] at c3; have HG4 := Aside0.mk (blk_far HG3.out (p := ⟨w2.heap.size, 0, none⟩) (blk_ne HG3.out HA3.out.hH (by decide)) (.slice (some ⟨w1.heap.size, 0, none⟩) (words l0.length) (words l0.length))); have HP3 := Aside0.mk (HA3.out.put (p := 0) (k' := 1) (fun i hi => by omega) HG3.out (Nat.two_pow_pos l0.length)); clear hg3 hb3) | (go_at_call 50; refine (set_put0 hl hlt HG4.out).mono ?_; rintro e w4 ⟨rfl, q, rfl⟩))
        go_roundw
        case rel =>
          refine ⟨1, _, _, by omega, by go_num, ⟨HP3.out.first (t := 1) hlt (up_same _ _ _) ?_ ?_ ?_ q⟩, ⟨fun i hi => ?_⟩⟩
          · have := HW3.out.2; have := HGR.out; omega
          · exact HW3.out.1
          · exact Nat.one_lt_two_pow (by omega)
          · obtain rfl : i = 0 := by omega
            rw [up_same]; rfl
        case measure => simp [intOf]; omega
      · have hne : ((p : Int) == 0) = false := by simp; omega
        go_wp2_with (first | (go_at_call 78; refine (set_all l0.length hl _).mono ?_; rintro e w1 ⟨rfl, hg, hb⟩; have HG := Aside0.mk hg; have HA1 := Aside0.mk (HA.out.step hb); have c1 : w1.cell? ⟨w2.heap.size, p, none⟩ = some (ov p) := HA1.out.cell hlt; have c2 : w1.frozen? ⟨w2.heap.size, p, none⟩ = false := blk_frozen HA1.out.hH p; clear hg hb))
        go_roundw
        case rel =>
          refine ⟨p + 1, _, _, by omega, by go_num, ⟨HA1.out.put (k' := p + 1) (fun i hi => by omega) HG.out HPW.out⟩, ⟨fun i hi => ?_⟩⟩
          by_cases e : i = p
          · subst e; rw [up_same]; unfold AG.atStart; rw [if_neg hp0]
          · rw [up_other _ _ e]; exact HOS.out i (by omega)
        case measure => simp [intOf]; omega
    · obtain rfl : p = l0.length := by omega
      have hR : ∀ p, p < l0.length → (sR.testBit p = true ↔ AG.Reached (nxL l0) p) := fun p hp => (HX.out p).trans ⟨fun h => h.2.weaken fun _ _ => by first | trivial | rfl, fun h => ⟨by omega, h.weaken fun _ _ => by first | trivial | rfl⟩⟩
      have hF : AG.Flow (nxL l0) (bkL l0) (fun i => sR.testBit i) l0.length (AG.atStart l0.length) := AG.Flow.start
      have HR := Aside0.mk hR
      have HF := Aside0.mk hF
      have HA := Aside0.mk (HA.out.congr HOS.out)
      clear hR hF HOS HX
      go_wp2_with fail
      go_loopw [7] (fun v wr => ∃ (ov : Nat → Value) (os : Nat → Nat) (ch : Bool), v = .bool ch ∧ Aside0 (AH W wr B l0.length G1 G2 W.heap.size gr sR w2.heap.size rv (webA l0 l0.length) ov os l0.length) ∧
        Aside0 (AG.Flow (nxL l0) (bkL l0) (fun i => sR.testBit i) l0.length os) ∧ Aside0 (ch = false → ∀ p, p < l0.length → p ≠ 0 → AG.Reached (nxL l0) p → AG.flowAt (fun i => sR.testBit i) (bkL l0) l0.length os p = os p)) (fun v wr => 2 * AG.tot l0.length (osOf wr w2.heap.size) l0.length + flagOf v)
      case atStart => exact ⟨_, _, true, rfl, HA, HF, ⟨fun h => by cases h⟩⟩
      case round =>
        clear HA HF
        obtain ⟨ov, os, ch, rfl, HA, HF, HC⟩ := hrel
        cases ch with
        | true =>
          go_wp2_with fail
          go_loopw [7, 8] (fun v i wr' => ∃ (p : Nat) (ov1 : Nat → Value) (os1 : Nat → Nat) (ch : Bool), v = .bool ch ∧ i = .int .i64 p ∧ 1 ≤ p ∧ p ≤ l0.length + 1 ∧ Aside0 (AH W wr' B l0.length G1 G2 W.heap.size gr sR w2.heap.size rv (webA l0 l0.length) ov1 os1 l0.length) ∧
            Aside0 (AG.Flow (nxL l0) (bkL l0) (fun i => sR.testBit i) l0.length os1) ∧ Aside0 (ch = false → os1 = os ∧ ∀ q, q < p → q < l0.length → q ≠ 0 → AG.Reached (nxL l0) q → AG.flowAt (fun i => sR.testBit i) (bkL l0) l0.length os q = os q) ∧ Aside0 (ch = true → AG.tot l0.length os1 l0.length < AG.tot l0.length os l0.length)) (fun _ i _ => l0.length + 1 - (intOf i).toNat)
          case atStart => exact ⟨1, ov, os, false, rfl, rfl, by omega, by omega, HA, HF, ⟨fun _ => ⟨rfl, fun q hq _ h0 => absurd h0 (by omega)⟩⟩, ⟨fun h => by cases h⟩⟩
          case round =>
            clear HC
            obtain ⟨p, ov1, os1, ch1, rfl, rfl, hp1, hp, HA1, HF1, HC1, HT1⟩ := hrel
            obtain ⟨wp, rfl⟩ : ∃ wp, wp = wr := ⟨_, rfl⟩
            by_cases hlt : p < l0.length
            · have hnot : ∀ (x : Bool) (w : World), (Op.unary .not (.bool x)).run Try.prog w = .ok (.bool (!x)) w := fun _ _ => rfl
              by_cases hr : sR.testBit p = true
              · have HRR := Aside0.mk ((HR.out p hlt).1 hr)
                have HPW := Aside0.mk (show 2 ^ l0.length - 1 < 2 ^ l0.length from Nat.sub_lt (Nat.two_pow_pos _) (by omega))
                obtain ⟨A, c, hv⟩ := own_slice (HA1.out.ho.rows (l0.length + p) (by omega))
                have HV := Lib.hid hv
                have hN := web_len HOK.out (l0.length + p)
                obtain ⟨ys, hys⟩ : ∃ ys, ys = webA l0 l0.length (l0.length + p) := ⟨_, rfl⟩
                have HYS := Lib.hid hys
                rw [← hys] at hN
                clear hv hys
                go_wp2_with (first | (go_at_call 52; refine (set_hasN hl hlt HS2.out HA1.out.hr).mono ?_; rintro e w' ⟨rfl, q, rfl⟩) | (go_at_call 78; refine (set_all l0.length hl _).mono ?_; rintro e w3 ⟨rfl, hg, hb⟩; have HG3 : Aside0 (w3.heap[wp.heap.size]? = some (.cells (setCells l0.length (2 ^ l0.length - 1)) 77 (0, 0))) := ⟨hg⟩; have HB3 : Aside0 (Below wp.heap.size wp w3) := ⟨(pw_below_drewN (Below.refl _ _) q).trans hb⟩; have HA3 := Aside0.mk (HA1.out.step HB3.out); have c1 : w3.cell? ⟨W.heap.size, 1, none⟩ = some (.slice (some ⟨G2, 0, none⟩) l0.length l0.length) := blk_cell HA3.out.hw 1; have c2 : w3.cell? ⟨G2, p, none⟩ = some (.slice A ys.length c) := (HA3.out.ho.cell2 hlt).trans (by rw [HV.out, HYS.out]); clear hg hb))
                have hpn : l0.length + p < 2 * l0.length := by omega
                have hg0 : w3.heap[wp.heap.size]? = some (.cells (setCells l0.length (AG.meets (fun i => sR.testBit i) os1 ((ys.take 0).map Int.toNat) (2 ^ l0.length - 1))) 77 (0, 0)) := HG3.out
                have HG0 := Aside0.mk hg0
                clear hg0 c1 c2 HG3
                go_loopw [61] (fun i w4 => ∃ (j : Nat), j ≤ ys.length ∧ i = .int .i64 j ∧ Aside0 (w4.heap[wp.heap.size]? = some (.cells (setCells l0.length (AG.meets (fun i => sR.testBit i) os1 ((ys.take j).map Int.toNat) (2 ^ l0.length - 1))) 77 (0, 0))) ∧ Aside0 (Below wp.heap.size wp w4)) (fun i _ => ys.length - (intOf i).toNat)
                case atStart => exact ⟨0, by omega, rfl, HG0, HB3⟩
                case round =>
                  clear HG0 HB3 HA3
                  obtain ⟨j, hj, rfl, HG4, HB4⟩ := hrel
                  have HA4 := Aside0.mk (HA1.out.step HB4.out)
                  by_cases hjl : j < ys.length
                  · have hqm := web_lt HOK.out (l0.length + p) (ys[j]) (by rw [← HYS.out]; exact List.getElem_mem hjl)
                    obtain ⟨q, hq⟩ : ∃ q : Nat, ys[j] = q := ⟨(ys[j]).toNat, by omega⟩
                    have hqn : q < l0.length := by omega
                    have hrow := HA4.out.ho.rows (l0.length + p) hpn
                    rw [← HYS.out, HV.out] at hrow
                    obtain ⟨_, hcs⟩ := own_cases hrow
                    rcases hcs with ⟨_, h0, _⟩ | ⟨g, c', hv', _, _, _, hH⟩
                    · rw [HYS.out] at hjl; omega
                    injection hv' with hA hL hC
                    subst hA hC
                    have hx : wr.cell? ⟨g, j, none⟩ = some (.int .i64 q) := by
                      have := (hH j (by simpa using hjl)).1
                      rw [Nat.zero_add] at this
                      rw [this, ← hq]
                      simp [hjl]
                    have HQQ := Lib.hid hq
                    clear hH hq hqm hrow hL
                    by_cases hq1 : sR.testBit q = true
                    · obtain ⟨gq, hov, hgq⟩ := HA4.out.outs q hqn
                      have c5 : ∀ t, (wr.drewN t).cell? ⟨w2.heap.size, q, none⟩ = some (.slice (some ⟨gq, 0, none⟩) (words l0.length) (words l0.length)) := fun t => ((HA4.out.drewN t).cell hqn).trans (by rw [hov])
                      have HGQ := Aside0.mk hgq
                      clear hgq hov
                      go_wp2_with (first | (go_at_call 52; refine (set_hasN hl hqn HS2.out HA4.out.hr).mono ?_; rintro e w' ⟨rfl, t, rfl⟩) | (go_at_call 79; refine (set_meet hl hqn (AG.meets_lt _ _ HPW.out) (HA4.out.lt q hqn) (blk_drewN HG4.out _) (blk_drewN HGQ.out _)).mono ?_; rintro e w5 ⟨rfl, hg5, ho5⟩; have HG5 := Aside0.mk hg5; have HO5 := Aside0.mk ho5; clear hg5 ho5))
                      go_roundw
                      case rel =>
                        refine ⟨j + 1, by omega, by go_num, ⟨?_⟩, ⟨(pw_below_drewN HB4.out t).trans (HO5.out.below _ (Nat.le_refl _))⟩⟩
                        rw [List.take_succ_eq_append_getElem hjl, List.map_append, List.map_cons, List.map_nil, HQQ.out, Int.toNat_natCast, AG.meets_snoc, if_pos hq1]
                        exact HG5.out
                      case measure => simp [intOf]; omega
                    · have hq1' : sR.testBit q = false := by simpa using hq1
                      go_wp2_with (first | (go_at_call 52; refine (set_hasN hl hqn HS2.out HA4.out.hr).mono ?_; rintro e w' ⟨rfl, t, rfl⟩))
                      go_roundw
                      case rel =>
                        refine ⟨j + 1, by omega, by go_num, ⟨?_⟩, ⟨pw_below_drewN HB4.out t⟩⟩
                        rw [List.take_succ_eq_append_getElem hjl, List.map_append, List.map_cons, List.map_nil, HQQ.out, Int.toNat_natCast, AG.meets_snoc, if_neg hq1]
                        exact blk_drewN HG4.out t
                      case measure => simp [intOf]; omega
                  · obtain rfl : j = ys.length := by omega
                    have hm : AG.flowAt (fun i => sR.testBit i) (bkL l0) l0.length os1 p = AG.meets (fun i => sR.testBit i) os1 (ys.map Int.toNat) (2 ^ l0.length - 1) ||| 2 ^ p := by
                      unfold AG.flowAt bkL
                      rw [HYS.out]
                    have hg4 := HG4.out
                    rw [List.take_length] at hg4
                    have HM := Aside0.mk hm
                    have HG4 := Aside0.mk hg4
                    obtain ⟨gp, hov, hgp⟩ := HA1.out.outs p hlt
                    have HGP := Aside0.mk hgp
                    have HOV := Aside0.mk hov
                    clear hm hg4 hgp hov
                    by_cases e : AG.flowAt (fun i => sR.testBit i) (bkL l0) l0.length os1 p = os1 p
                    · have HD : Aside0 (decide (AG.meets (fun i => sR.testBit i) os1 (ys.map Int.toNat) (2 ^ l0.length - 1) ||| 2 ^ p = os1 p) = true) := ⟨decide_eq_true (HM.out.symm.trans e)⟩
                      go_wp2_with (first | (go_at_call 50; refine (set_putO hl hlt (AG.meets_lt _ _ HPW.out) HG4.out).mono ?_; rintro e w5 ⟨rfl, hg5, ho5⟩; have HG5 := Aside0.mk hg5; have HB5 := Aside0.mk (HB4.out.trans (ho5.below _ (Nat.le_refl _))); have HA5 := Aside0.mk (HA1.out.step HB5.out); have c6 : w5.cell? ⟨w2.heap.size, p, none⟩ = some (.slice (some ⟨gp, 0, none⟩) (words l0.length) (words l0.length)) := (HA5.out.cell hlt).trans (by rw [HOV.out]); clear hg5 ho5) | (go_at_call 80; refine (set_equal hl hlt HG5.out ((HB5.out.block _ (blk_lt HGP.out)).trans HGP.out)).mono ?_; rintro e w6 ⟨he, t, rfl⟩; rw [HD.out] at he; subst he))
                      go_roundw
                      case rel =>
                        refine ⟨p + 1, ov1, os1, ch1, rfl, by go_num, by omega, by omega, ⟨HA5.out.drewN t⟩, HF1, ⟨fun hc => ⟨(HC1.out hc).1, fun q' hq' hqn h0 hrq => ?_⟩⟩, HT1⟩
                        by_cases e' : q' = p
                        · subst e'; rw [← (HC1.out hc).1]; exact e
                        · exact (HC1.out hc).2 q' (by omega) hqn h0 hrq
                      case measure => simp [intOf]; omega
                    · have HD : Aside0 (decide (AG.meets (fun i => sR.testBit i) os1 (ys.map Int.toNat) (2 ^ l0.length - 1) ||| 2 ^ p = os1 p) = false) := ⟨decide_eq_false fun h => e (HM.out.trans h)⟩
                      go_wp2_with (first | (go_at_call 50; refine (set_putO hl hlt (AG.meets_lt _ _ HPW.out) HG4.out).mono ?_; rintro e w5 ⟨rfl, hg5, ho5⟩; have HG5 := Aside0.mk hg5; have HB5 := Aside0.mk (HB4.out.trans (ho5.below _ (Nat.le_refl _))); have HA5 := Aside0.mk (HA1.out.step HB5.out); have c6 : w5.cell? ⟨w2.heap.size, p, none⟩ = some (.slice (some ⟨gp, 0, none⟩) (words l0.length) (words l0.length)) := (HA5.out.cell hlt).trans (by rw [HOV.out]); have c7 : ∀ t, (w5.drewN t).cell? ⟨w2.heap.size, p, none⟩ = some (.slice (some ⟨gp, 0, none⟩) (words l0.length) (words l0.length)) := fun t => ((HA5.out.drewN t).cell hlt).trans (by rw [HOV.out]); have c8 : ∀ t, (w5.drewN t).frozen? ⟨w2.heap.size, p, none⟩ = false := fun t => blk_frozen (blk_drewN HA5.out.hH t) p; clear hg5 ho5) | (go_at_call 80; refine (set_equal hl hlt HG5.out ((HB5.out.block _ (blk_lt HGP.out)).trans HGP.out)).mono ?_; rintro e w6 ⟨he, t, rfl⟩; rw [HD.out] at he; subst he))
                      go_roundw
                      case rel =>
                        refine ⟨p + 1, _, AG.upd os1 p (AG.flowAt (fun i => sR.testBit i) (bkL l0) l0.length os1 p), true, rfl, by go_num, by omega, by omega, ⟨(HA5.out.drewN t).put (k' := l0.length) (fun i hi => .inr hi) (by rw [HM.out]; exact blk_drewN HG5.out t) (AG.flowAt_lt hlt)⟩, ⟨HF1.out.turn HR.out (fun a b ha hb => (bk_iff HOK.out).1 hb) hlt (by omega) HRR.out⟩, ⟨fun h => by cases h⟩, ⟨fun _ => ?_⟩⟩
                        have h1 := HF1.out.loses hlt (by omega) HRR.out e
                        cases ch1 with
                        | false => rw [(HC1.out rfl).1] at h1 ⊢; exact h1
                        | true => exact Nat.lt_trans h1 (HT1.out rfl)
                      case measure => simp [intOf]; omega
              · have hr' : sR.testBit p = false := by simpa using hr
                go_wp2_with (first | (go_at_call 52; refine (set_hasN hl hlt HS2.out HA1.out.hr).mono ?_; rintro e w' ⟨rfl, q, rfl⟩))
                go_roundw
                case rel =>
                  refine ⟨p + 1, ov1, os1, ch1, rfl, by go_num, by omega, by omega, ⟨HA1.out.drewN q⟩, HF1, ⟨fun hc => ⟨(HC1.out hc).1, fun q' hq' hqn h0 hrq => ?_⟩⟩, HT1⟩
                  by_cases e : q' = p
                  · subst e; exact absurd ((HR.out q' hlt).2 hrq) hr
                  · exact (HC1.out hc).2 q' (by omega) hqn h0 hrq
                case measure => simp [intOf]; omega
            · go_wp2_with fail
              go_roundw
              case rel =>
                refine ⟨ov1, os1, ch1, rfl, HA1, HF1, ⟨fun hc p' hp' h0 hr => ?_⟩⟩
                obtain ⟨h1, h2⟩ := HC1.out hc
                rw [h1]
                exact h2 p' (by omega) hp' h0 hr
              case measure =>
                have e1 := HA1.out.tot
                have e2 := HA.out.tot
                rw [e1, e2]
                cases ch1 with
                | false => rw [(HC1.out rfl).1]; simp [flagOf]
                | true => have := HT1.out rfl; simp only [flagOf]; omega
        | false =>
          go_wp2_with fail
          go_loopw [90] (fun i w4 => ∃ (p : Nat) (ov1 : Nat → Value) (os1 : Nat → Nat), p ≤ l0.length ∧ i = .int .i64 p ∧ Aside0 (AH W w4 B l0.length G1 G2 W.heap.size gr sR w2.heap.size rv (webA l0 l0.length) ov1 os1 l0.length) ∧
            Aside0 (∀ i, i < l0.length → os1 i = if i < p ∧ sR.testBit i = false then 0 else os i)) (fun i _ => l0.length - (intOf i).toNat)
          case atStart => exact ⟨0, ov, os, by omega, rfl, HA, ⟨fun i hi => by rw [if_neg (by omega)]⟩⟩
          case round =>
            clear HA
            obtain ⟨p, ov1, os1, hp, rfl, HA1, HO1⟩ := hrel
            by_cases hlt : p < l0.length
            · have hnot : ∀ (x : Bool) (w : World), (Op.unary .not (.bool x)).run Try.prog w = .ok (.bool (!x)) w := fun _ _ => rfl
              by_cases hr : sR.testBit p = true
              · go_wp2_with (first | (go_at_call 52; refine (set_hasN hl hlt HS2.out HA1.out.hr).mono ?_; rintro e w' ⟨rfl, q, rfl⟩))
                go_roundw
                case rel =>
                  refine ⟨p + 1, ov1, os1, by omega, by go_num, ⟨HA1.out.drewN q⟩, ⟨fun i hi => ?_⟩⟩
                  rw [HO1.out i hi]
                  by_cases e : i = p
                  · subst e; rw [if_neg (by rw [hr]; simp), if_neg (by rw [hr]; simp)]
                  · by_cases h : sR.testBit i = false
                    · by_cases h2 : i < p
                      · rw [if_pos ⟨h2, h⟩, if_pos ⟨by omega, h⟩]
                      · rw [if_neg (fun k => h2 k.1), if_neg (fun k => by omega)]
                    · rw [if_neg (fun k => h k.2), if_neg (fun k => h k.2)]
                case measure => simp [intOf]; omega
              · have hr' : sR.testBit p = false := by simpa using hr
                go_wp2_with (first | (go_at_call 52; refine (set_hasN hl hlt HS2.out HA1.out.hr).mono ?_; rintro e w' ⟨rfl, q, rfl⟩) | (go_at_call 49; refine (set_none' l0.length hl _).mono ?_; rintro e w5 ⟨rfl, hg5, hb5⟩; have HG5 := Aside0.mk hg5; have HA5 := Aside0.mk ((HA1.out.drewN q).step hb5); have c7 : w5.cell? ⟨w2.heap.size, p, none⟩ = some (ov1 p) := HA5.out.cell hlt; have c8 : w5.frozen? ⟨w2.heap.size, p, none⟩ = false := blk_frozen HA5.out.hH p; clear hg5 hb5))
                go_roundw
                case rel =>
                  refine ⟨p + 1, _, _, by omega, by go_num, ⟨HA5.out.put (k' := l0.length) (fun i hi => .inr hi) HG5.out (Nat.two_pow_pos _)⟩, ⟨fun i hi => ?_⟩⟩
                  by_cases e : i = p
                  · subst e; rw [up_same, if_pos ⟨by omega, hr'⟩]
                  · rw [up_other _ _ e, HO1.out i hi]
                    by_cases h : sR.testBit i = false
                    · by_cases h2 : i < p
                      · rw [if_pos ⟨h2, h⟩, if_pos ⟨by omega, h⟩]
                      · rw [if_neg (fun k => h2 k.1), if_neg (fun k => by omega)]
                    · rw [if_neg (fun k => h k.2), if_neg (fun k => h k.2)]
                case measure => simp [intOf]; omega
            · obtain rfl : p = l0.length := by omega
              go_wp2_with fail
              go_ret
              refine ⟨_, gr, sR, _, ov1, os1, rfl, HA1.out, fun p hp a => ?_⟩
              rw [HO1.out p hp]
              by_cases hr : sR.testBit p = true
              · rw [if_neg (by rw [hr]; simp)]
                have hrp := (HR.out p hp).1 hr
                have hn0 : 0 < l0.length := by omega
                have hfx := fun (ha : a < l0.length) => HF.out.fixed HR.out (fun x y hx hy hxy => (bk_iff HOK.out).2 ⟨hy, hxy⟩) (fun x hx => reached_lt HOK.out hn0 hx) hn0 (HC.out (by first | trivial | rfl)) hrp (a := a) ha
                exact ⟨fun h => have ha := AG.has_lt (HF.out.lt p hp) h; ⟨hrp, ha, (hfx ha).1 h⟩, fun h => (hfx h.2.1).2 h.2.2⟩
              · rw [if_pos ⟨hp, by simpa using hr⟩]
                exact ⟨fun h => absurd h (AG.has_zero a), fun h => absurd ((HR.out p hp).2 h.1) hr⟩
end Go.Proofs.Ytbcmckfceeakhaa.Gv
end

section
set_option linter.unusedVariables false
set_option linter.unusedSimpArgs false
namespace Go.Proofs.Ytbcmckfceeakhaa.Gv
open Go.RowKit Go.Proofs.YtbcmckfceeakhaaW.PrintWords

/-- Who stands ahead of a reached place. -/
def aheadP (l : List Int) (a b : Nat) : Prop := AG.Reached (nxL l) b ∧ AG.Dom (nxL l) a b
open Classical in
noncomputable def aheadB (l : List Int) (a1 a2 : Int) : Bool := decide ((0 ≤ a1 ∧ a1 < l.length ∧ 0 ≤ a2 ∧ a2 < l.length) ∧ aheadP l a1.toNat a2.toNat)
open Classical in
theorem aheadB_iff {l : List Int} {a1 a2 : Int} : aheadB l a1 a2 = true ↔ (0 ≤ a1 ∧ a1 < l.length ∧ 0 ≤ a2 ∧ a2 < l.length) ∧ aheadP l a1.toNat a2.toNat := by
  unfold aheadB
  exact decide_eq_true_iff
open Classical in
noncomputable def graph_Ahead.f (l0 : List Int) (a1 : Int) (a2 : Int) : Option (Bool) := if okW l0 then some (aheadB l0 a1 a2) else none
set_option maxRecDepth 100000 in
set_option maxHeartbeats 4000000 in
theorem ahead_in (A0 : Option Addr) (c0 : Nat) (l0 : List Int) (a b : Nat) (w : World) (hr0 : Kd.C (Kd.int .u32) w A0 l0.length l0) (hok : okW l0) (ha : a < l0.length) (hb : b < l0.length) :
    Calls Try.prog 17 #[.slice A0 l0.length c0, .int .i64 a, .int .i64 b] w fun e w' => ∃ s : Nat, e = .returned (.bool (s.testBit a)) ∧ (AG.has s a ↔ AG.Reached (nxL l0) b ∧ AG.Dom (nxL l0) a b) ∧ Below w.heap.size w w' := by
  have hl := hok.1
  have HR := Aside0.mk hr0
  have HOK := Aside0.mk hok
  clear hr0 hok
  go_enter Try.func17, Try.ntmps17
  go_wp2_with (first | (go_at_call 45; refine (weave_any A0 c0 l0 _ HR.out HOK.out).mono ?_; rintro e w1 ⟨G1, G2, rv, rfl, hO, hb⟩; have HO := Aside0.mk hO; have HB := Aside0.mk hb; clear hO hb) | (go_at_call 54; refine (aheads_any l0 HOK.out _ _ G1 G2 rv HO.out).mono ?_; rintro e w2 ⟨bw, gr, sR, H, ov, os, rfl, hA, hS⟩; have HA := Aside0.mk hA; have HS := Aside0.mk hS; obtain ⟨g, hov, hg⟩ := hA.outs b hb; have HG := Aside0.mk hg; have c1 : w2.cell? ⟨H, b, none⟩ = some (.slice (some ⟨g, 0, none⟩) (words l0.length) (words l0.length)) := (hA.cell hb).trans (by rw [hov]); clear hA hS hov hg) | (go_at_call 52; refine (set_hasN hl ha (HA.out.lt b hb) HG.out).mono ?_; rintro e w3 ⟨rfl, q, rfl⟩))
  go_ret
  refine ⟨os b, rfl, (HS.out b hb a).trans ⟨fun h => ⟨h.1, h.2.2⟩, fun h => ⟨h.1, ha, h.2⟩⟩, ?_⟩
  exact pw_below_drewN (HB.out.trans (HA.out.below.mono HB.out.size)) q
set_option maxRecDepth 100000 in
set_option maxHeartbeats 4000000 in
theorem ahead_out (A0 : Option Addr) (c0 : Nat) (l0 : List Int) (a b : Int) (w : World) (hl : l0.length ≤ 64) (h : ¬ (0 ≤ a ∧ a < l0.length ∧ 0 ≤ b ∧ b < l0.length)) :
    Calls Try.prog 17 #[.slice A0 l0.length c0, .int .i64 a, .int .i64 b] w fun e w' => e = .returned (.bool false) ∧ Below w.heap.size w w' := by
  by_cases h1 : a < 0
  · go_enter Try.func17, Try.ntmps17
    go_wp2
    go_ret
    exact ⟨rfl, Below.refl _ _⟩
  by_cases h2 : b < 0
  · go_enter Try.func17, Try.ntmps17
    go_wp2
    go_ret
    exact ⟨rfl, Below.refl _ _⟩
  by_cases h3 : (l0.length : Int) ≤ a
  · go_enter Try.func17, Try.ntmps17
    go_wp2
    go_ret
    exact ⟨rfl, Below.refl _ _⟩
  have h4 : (l0.length : Int) ≤ b := by omega
  go_enter Try.func17, Try.ntmps17
  go_wp2
  go_ret
  exact ⟨rfl, Below.refl _ _⟩
end Go.Proofs.Ytbcmckfceeakhaa.Gv
namespace Go.Proofs.Ytbcmckfceeakhaa.Gv
open Go.RowKit Go.Proofs.YtbcmckfceeakhaaW.PrintWords
open Classical in
theorem graph_Ahead.calls (A0 : Option Addr) (c0 : Nat) (l0 : List Int) (a1 : Int) (a2 : Int) (r : Bool) (w : World) (hr0 : Kd.C (Kd.int .u32) w A0 l0.length l0) (_hc0 : l0.length ≤ c0) (h : graph_Ahead.f l0 a1 a2 = some r) :
    Calls Try.prog 17 #[.slice A0 l0.length c0, .int .i64 a1, .int .i64 a2] w fun e w' => e = .returned (.bool r) ∧ Below w.heap.size w w' := by
  unfold graph_Ahead.f at h
  by_cases hok : okW l0
  · rw [if_pos hok] at h
    cases h
    by_cases hin : 0 ≤ a1 ∧ a1 < l0.length ∧ 0 ≤ a2 ∧ a2 < l0.length
    · obtain ⟨a, rfl⟩ : ∃ a : Nat, a1 = a := ⟨a1.toNat, by omega⟩
      obtain ⟨b, rfl⟩ : ∃ b : Nat, a2 = b := ⟨a2.toNat, by omega⟩
      refine (ahead_in A0 c0 l0 a b w hr0 hok (by omega) (by omega)).mono ?_
      rintro e w' ⟨s, rfl, hs, hb⟩
      refine ⟨?_, hb⟩
      congr 2
      exact Bool.eq_iff_iff.2 (hs.trans ⟨fun h => aheadB_iff.2 ⟨hin, h⟩, fun h => (aheadB_iff.1 h).2⟩)
    · refine (ahead_out A0 c0 l0 a1 a2 w hok.1 hin).mono ?_
      rintro e w' ⟨rfl, hb⟩
      refine ⟨?_, hb⟩
      congr 2
      exact (Bool.eq_false_iff.2 fun hh => hin (aheadB_iff.1 hh).1).symm
  · rw [if_neg hok] at h; cases h
end Go.Proofs.Ytbcmckfceeakhaa.Gv
end
