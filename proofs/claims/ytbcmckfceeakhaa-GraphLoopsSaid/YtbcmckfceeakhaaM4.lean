import Derived.Test.YtbcmckfceeakhaaM3
import Derived.Test.YtbcmckfceeakhaaM1
import Derived.Test.YtbcmckfceeakhaaV
section
set_option linter.unusedVariables false
set_option linter.unusedSimpArgs false
namespace Go.Proofs.Ytbcmckfceeakhaa.Gv
open Go.RowKit Go.Proofs.YtbcmckfceeakhaaW.PrintWords

/-- How many places are fresh. -/
def fresh : Nat → (Nat → Nat) → Nat
  | 0, _ => 0
  | n + 1, st => fresh n st + (if st n = 0 then 1 else 0)
theorem fresh_le {a b : Nat → Nat} : ∀ n, (∀ q, q < n → b q = 0 → a q = 0) → fresh n b ≤ fresh n a
  | 0, _ => Nat.le_refl _
  | n + 1, h => by
    unfold fresh
    have h1 := fresh_le n fun q hq => h q (by omega)
    have h2 := h n (by omega)
    by_cases hb : b n = 0
    · rw [if_pos hb, if_pos (h2 hb)]; omega
    · rw [if_neg hb]; omega
theorem fresh_lt {a b : Nat → Nat} {p : Nat} : ∀ n, (∀ q, q < n → b q = 0 → a q = 0) → p < n → a p = 0 → b p ≠ 0 → fresh n b < fresh n a
  | 0, _, h, _, _ => by omega
  | n + 1, h, hp, ha, hb => by
    unfold fresh
    by_cases e : p = n
    · subst e
      have h1 := fresh_le p fun q hq => h q (by omega)
      rw [if_pos ha, if_neg hb]; omega
    · have h1 := fresh_lt n (fun q hq => h q (by omega)) (by omega) ha hb
      have h2 := h n (by omega)
      by_cases hb : b n = 0
      · rw [if_pos hb, if_pos (h2 hb)]; omega
      · rw [if_neg hb]; omega
theorem went_fresh {a b : Nat → Nat} (h : AG.Went a b) (h2 : ∀ q, a q ≤ 2) (q : Nat) (hb : b q = 0) : a q = 0 := by
  have h3 := h2 q
  by_cases e1 : a q = 1
  · have := (h.opens q).2 e1; omega
  · by_cases e2 : a q = 2
    · have := h.dones q e2; omega
    · omega
/-- Nothing but the colours and the flag has turned. -/
structure Only2 (g f : Nat) (W W' : World) : Prop where
  keep : ∀ k, k < W.heap.size → k ≠ g → k ≠ f → W'.heap[k]? = W.heap[k]?
  below : ∀ B, B ≤ g → B ≤ f → Below B W W'
theorem Only2.refl (g f : Nat) (W : World) : Only2 g f W W := ⟨fun _ _ _ _ => rfl, fun _ _ _ => Below.refl _ _⟩
theorem Only2.trans {g f : Nat} {a b c : World} (h : Only2 g f a b) (k : Only2 g f b c) : Only2 g f a c :=
  ⟨fun x hx hn hm => (k.keep x (Nat.lt_of_lt_of_le hx (h.below 0 (by omega) (by omega)).size) hn hm).trans (h.keep x hx hn hm), fun B hB hC => (h.below B hB hC).trans (k.below B hB hC)⟩
theorem Only2.drewN {g f : Nat} {a b : World} (h : Only2 g f a b) (q : Nat) : Only2 g f a (b.drewN q) := ⟨fun x hx hn hm => h.keep x hx hn hm, fun B hB hC => pw_below_drewN (h.below B hB hC) q⟩
theorem Only2.putG {g f : Nat} {a b : World} (h : Only2 g f a b) (i : Nat) (v : Value) : Only2 g f a (b.setCell ⟨g, i, none⟩ v) :=
  ⟨fun x hx hn hm => (Below.heap_setCell _ _ _ _ (fun e => hn (by first | exact e | exact e.symm))).trans (h.keep x hx hn hm), fun B hB hC => (h.below B hB hC).setCell (p := ⟨g, i, none⟩) hB v⟩
theorem Only2.putF {g f : Nat} {a b : World} (h : Only2 g f a b) (i : Nat) (v : Value) : Only2 g f a (b.setCell ⟨f, i, none⟩ v) :=
  ⟨fun x hx hn hm => (Below.heap_setCell _ _ _ _ (fun e => hm (by first | exact e | exact e.symm))).trans (h.keep x hx hn hm), fun B hB hC => (h.below B hB hC).setCell (p := ⟨f, i, none⟩) hC v⟩
/-- What the search that colours reads. -/
structure Cols (W : World) (B n G1 G2 gt bT bW bF bC : Nat) (rv : Nat → Value) (ll : Nat → List Int) : Prop where
  hT : W.heap[bT]? = some (.cells #[.slice (some ⟨gt, 0, none⟩) n n] 25 (0, 0))
  hW : W.heap[bW]? = some (.cells #[.slice (some ⟨G1, 0, none⟩) n n, .slice (some ⟨G2, 0, none⟩) n n] 68 (0, 0))
  hC : W.heap[bC]? = some (.cells #[.func (.func 55) #[] #[.pointer (some ⟨bT, 0, none⟩), .pointer (some ⟨bW, 0, none⟩), .pointer (some ⟨bF, 0, none⟩), .pointer (some ⟨bC, 0, none⟩)]] 76 (0, 0))
  ho : WebOwn W B n G1 G2 rv ll
  apart : ∀ i, i < 2 * n → ∀ k, (rv i).ownBlock = some k → k ≠ gt
  lt : ∀ i, i < n → ∀ x ∈ ll i, 0 ≤ x ∧ x < n
  len : ∀ i, i < n → (ll i).length ≤ 1000000
theorem Cols.step {W W' : World} {B n G1 G2 gt bT bW bF bC : Nat} {rv : Nat → Value} {ll : Nat → List Int} (h : Cols W B n G1 G2 gt bT bW bF bC rv ll) {cs ds : Array Value}
    (hg : W.heap[gt]? = some (.cells cs 3 (0, 0))) (hf : W.heap[bF]? = some (.cells ds 4 (0, 0))) (k : Only2 gt bF W W') : Cols W' B n G1 G2 gt bT bW bF bC rv ll := by
  have hm : ∀ {b t : Nat} {cs : Array Value}, W.heap[b]? = some (.cells cs t (0, 0)) → t ≠ 3 → t ≠ 4 → W'.heap[b]? = W.heap[b]? := fun hb h3 h4 => k.keep _ (blk_lt hb) (blk_ne hb hg h3) (blk_ne hb hf h4)
  refine ⟨(hm h.hT (by decide) (by decide)).trans h.hT, (hm h.hW (by decide) (by decide)).trans h.hW, (hm h.hC (by decide) (by decide)).trans h.hC, h.ho.step' fun b hb => ?_, h.apart, h.lt, h.len⟩
  rcases hb with rfl | rfl | ⟨i, hi, hb⟩
  · exact hm h.ho.h1 (by decide) (by decide)
  · exact hm h.ho.h2 (by decide) (by decide)
  · obtain ⟨cs', hc⟩ := own_typed (h.ho.rows i hi) b hb
    exact k.keep _ (blk_lt hc) (h.apart i hi b hb) (blk_ne hc hf (by decide))
def colV (st : Nat → Nat) : Nat → Value := fun i => .int .i64 (st i)
theorem col_put {W : World} {gt n p x : Nat} {st : Nat → Nat} (h : W.heap[gt]? = some (.cells (hdr n 0 (colV st)) 3 (0, 0))) : (W.setCell ⟨gt, p, none⟩ (.int .i64 (x : Nat))).heap[gt]? = some (.cells (hdr n 0 (colV (AG.setAt st p x))) 3 (0, 0)) := by
  refine blk_put h p _ ?_
  rw [hdr_set, Nat.zero_add]
  apply hdr_congr
  intro i _
  unfold up colV AG.setAt
  rw [Nat.zero_add]
  split <;> rfl
theorem col_cell {W : World} {gt n p : Nat} {st : Nat → Nat} (h : W.heap[gt]? = some (.cells (hdr n 0 (colV st)) 3 (0, 0))) (hp : p < n) : W.cell? ⟨gt, p, none⟩ = some (.int .i64 (st p)) := (blk_cell h p).trans ((hdr_get _ hp).trans (by rw [Nat.zero_add]; rfl))
set_option maxRecDepth 100000 in
set_option maxHeartbeats 4000000 in
theorem cyc_any (B n G1 G2 gt bT bW bF bC : Nat) (rv : Nat → Value) (ll : Nat → List Int) (hn : n ≤ 64) :
    ∀ m st found p W, fresh n st < m → p < n → st p = 0 → (∀ q, st q ≤ 2) → AG.Col (fun i => (ll i).map Int.toNat) n st found p → Cols W B n G1 G2 gt bT bW bF bC rv ll →
      W.heap[gt]? = some (.cells (hdr n 0 (colV st)) 3 (0, 0)) → W.heap[bF]? = some (.cells #[.bool found] 4 (0, 0)) →
      Calls Try.prog 55 #[.int .i64 p, .pointer (some ⟨bT, 0, none⟩), .pointer (some ⟨bW, 0, none⟩), .pointer (some ⟨bF, 0, none⟩), .pointer (some ⟨bC, 0, none⟩)] W fun e w' =>
        e = .returned (.tuple #[]) ∧ ∃ (st' : Nat → Nat) (found' : Bool), (∀ q, st' q ≤ 2) ∧ w'.heap[gt]? = some (.cells (hdr n 0 (colV st')) 3 (0, 0)) ∧ w'.heap[bF]? = some (.cells #[.bool found'] 4 (0, 0)) ∧ Only2 gt bF W w' ∧
          AG.ColP (fun i => (ll i).map Int.toNat) n st st' found found' p := by
  intro m
  induction m with
  | zero => intro st found p W h; omega
  | succ m ih =>
    intro st found p W hm hp h0 h2 hcol hQ hg hf
    have c1 : W.cell? ⟨bT, 0, none⟩ = some (.slice (some ⟨gt, 0, none⟩) n n) := blk_cell hQ.hT 0
    have c2 : W.frozen? ⟨gt, p, none⟩ = false := blk_frozen hg p
    have c3 := col_cell hg hp
    have HG1 := Aside0.mk (col_put (p := p) (x := 1) hg)
    have HO1 := Aside0.mk ((Only2.refl gt bF W).putG p (.int .i64 (1 : Nat)))
    have HF1 := Aside0.mk (blk_far hf (p := ⟨gt, p, none⟩) (blk_ne hf hg (by decide)) (.int .i64 (1 : Nat)))
    have HQ1 := Aside0.mk (hQ.step hg hf HO1.out)
    have d1 : (W.setCell ⟨gt, p, none⟩ (.int .i64 1)).cell? ⟨bW, 0, none⟩ = some (.slice (some ⟨G1, 0, none⟩) n n) := blk_cell HQ1.out.hW 0
    obtain ⟨A, c, hv⟩ := own_slice (HQ1.out.ho.rows p (by omega))
    have d2 : (W.setCell ⟨gt, p, none⟩ (.int .i64 1)).cell? ⟨G1, p, none⟩ = some (.slice A (ll p).length c) := (HQ1.out.ho.cell1 hp).trans (by rw [hv])
    have hN := hQ.len p hp
    have hfr : fresh n (AG.setAt st p 1) < m := by
      have : fresh n (AG.setAt st p 1) < fresh n st := fresh_lt n (fun q _ hq => by
        unfold AG.setAt at hq
        split at hq
        · omega
        · exact hq) hp h0 (by unfold AG.setAt; simp)
      omega
    have HV := Lib.hid hv
    have HFR := Aside0.mk hfr
    have HI := Lib.hid ih
    have HCOL := Aside0.mk hcol
    have H0 := Aside0.mk h0
    have H2 := Aside0.mk h2
    have HQ := Aside0.mk hQ
    have HG := Aside0.mk hg
    have HF := Aside0.mk hf
    clear hv hfr ih hcol h0 h2 hQ hg hf hm
    go_enter Try.func55, Try.ntmps55
    go_wp2_with fail
    go_loopw [17] (fun i wr => ∃ (j : Nat) (st1 : Nat → Nat) (found1 : Bool), j ≤ (ll p).length ∧ i = .int .i64 j ∧ Aside0 (∀ q, st1 q ≤ 2) ∧ Aside0 (wr.heap[gt]? = some (.cells (hdr n 0 (colV st1)) 3 (0, 0))) ∧ Aside0 (wr.heap[bF]? = some (.cells #[.bool found1] 4 (0, 0))) ∧ Aside0 (Only2 gt bF W wr) ∧
      Aside0 (AG.ColL (fun i => (ll i).map Int.toNat) n (AG.setAt st p 1) st1 found found1 (((ll p).take j).map Int.toNat))) (fun i _ => (ll p).length - (intOf i).toNat)
    case atStart => exact ⟨0, _, found, by omega, rfl, ⟨fun q => by
      unfold AG.setAt
      split
      · omega
      · exact H2.out q⟩, HG1, HF1, HO1, ⟨AG.ColL.start HCOL.out H0.out⟩⟩
    case round =>
      clear HG1 HF1 HO1 HQ1 d1 d2 c1 c2 c3
      obtain ⟨j, st1, found1, hj, rfl, HS1, HG1, HF1, HO1, HL1⟩ := hrel
      have HQ1 := Aside0.mk (HQ.out.step HG.out HF.out HO1.out)
      have c1 : wr.cell? ⟨bT, 0, none⟩ = some (.slice (some ⟨gt, 0, none⟩) n n) := blk_cell HQ1.out.hT 0
      by_cases hjl : j < (ll p).length
      · have hqm := HQ.out.lt p hp _ (List.getElem_mem hjl)
        obtain ⟨q, hq⟩ : ∃ q : Nat, (ll p)[j] = q := ⟨((ll p)[j]).toNat, by omega⟩
        have hqn : q < n := by omega
        have hrow := HQ1.out.ho.rows p (by omega)
        rw [HV.out] at hrow
        obtain ⟨_, hcs⟩ := own_cases hrow
        rcases hcs with ⟨_, hz, _⟩ | ⟨g, c', hv', _, _, _, hH⟩
        · omega
        injection hv' with hA _ hC
        subst hA hC
        have hx : wr.cell? ⟨g, j, none⟩ = some (.int .i64 q) := by
          have := (hH j (by simpa using hjl)).1
          rw [Nat.zero_add] at this
          rw [this, ← hq]
          simp [hjl]
        have hmem : q ∈ (ll p).map Int.toNat := List.mem_map.2 ⟨_, List.getElem_mem hjl, by rw [hq]; rfl⟩
        have htk : ((ll p).take (j + 1)).map Int.toNat = ((ll p).take j).map Int.toNat ++ [q] := by
          rw [List.take_succ_eq_append_getElem hjl, List.map_append, List.map_cons, List.map_nil, hq, Int.toNat_natCast]
        have HTK := Lib.hid htk
        have HMEM := Lib.hid hmem
        clear hH hq hqm hrow htk hmem
        have c4 := col_cell HG1.out hqn
        have hs1 := HS1.out q
        have e3 : st1 q = 0 ∨ st1 q = 1 ∨ st1 q = 2 := by omega
        rcases e3 with e | e | e
        · rw [e] at c4
          have c5 : wr.cell? ⟨bC, 0, none⟩ = some (.func (.func 55) #[] #[.pointer (some ⟨bT, 0, none⟩), .pointer (some ⟨bW, 0, none⟩), .pointer (some ⟨bF, 0, none⟩), .pointer (some ⟨bC, 0, none⟩)]) := blk_cell HQ1.out.hC 0
          have HLT : Aside0 (fresh n st1 < m) := ⟨Nat.lt_of_le_of_lt (fresh_le n fun x _ hb => went_fresh HL1.out.went (fun y => by
            unfold AG.setAt
            split
            · omega
            · exact H2.out y) x hb) HFR.out⟩
          have HE := Lib.hid e
          clear e
          go_wp2_with (first | (go_at_call 55; refine (HI.out st1 found1 q _ HLT.out hqn HE.out HS1.out (AG.ColL.before HCOL.out H0.out HL1.out HMEM.out) HQ1.out HG1.out HF1.out).mono ?_; rintro e w' ⟨rfl, st2, found2, h22, hg2, hf2, ho2, hp2⟩; have h22 := Aside0.mk h22; have hg2 := Aside0.mk hg2; have hf2 := Aside0.mk hf2; have ho2 := Aside0.mk ho2; have hp2 := Aside0.mk hp2))
          go_roundw
          case rel => exact ⟨j + 1, st2, found2, by omega, by go_num, h22, hg2, hf2, ⟨HO1.out.trans ho2.out⟩, ⟨by rw [HTK.out]; exact HL1.out.came hp2.out⟩⟩
          case measure => simp [intOf]; omega
        · rw [e] at c4
          have c5 : wr.cell? ⟨bF, 0, none⟩ = some (.bool found1) := blk_cell HF1.out 0
          have c6 : wr.frozen? ⟨bF, 0, none⟩ = false := blk_frozen HF1.out 0
          have HG2 := Aside0.mk (blk_far HG1.out (p := ⟨bF, 0, none⟩) (blk_ne HG1.out HF1.out (by decide)) (.bool true))
          have HF2 := Aside0.mk (blk_put HF1.out 0 (.bool true) rfl)
          have HO2 := Aside0.mk (HO1.out.putF 0 (.bool true))
          have d1 : (wr.setCell ⟨bF, 0, none⟩ (.bool true)).cell? ⟨bT, 0, none⟩ = some (.slice (some ⟨gt, 0, none⟩) n n) := blk_cell (HQ.out.step HG.out HF.out HO2.out).hT 0
          have d4 := col_cell HG2.out hqn
          rw [e] at d4
          have HE := Lib.hid e
          clear e
          go_wp2_with fail
          go_roundw
          case rel => exact ⟨j + 1, st1, true, by omega, by go_num, HS1, HG2, HF2, HO2, ⟨by rw [HTK.out]; exact HL1.out.opens HCOL.out H0.out HMEM.out HE.out⟩⟩
          case measure => simp [intOf]; omega
        · rw [e] at c4
          go_wp2_with fail
          go_roundw
          case rel => exact ⟨j + 1, st1, found1, by omega, by go_num, HS1, HG1, HF1, HO1, ⟨by rw [HTK.out]; exact HL1.out.skips e⟩⟩
          case measure => simp [intOf]; omega
      · obtain rfl : j = (ll p).length := by omega
        have c2 : wr.frozen? ⟨gt, p, none⟩ = false := blk_frozen HG1.out p
        have c3 := col_cell HG1.out hp
        go_wp2_with fail
        go_end0
        have hl := HL1.out
        rw [List.take_length] at hl
        refine ⟨rfl, AG.setAt st1 p 2, found1, fun q => ?_, col_put (x := 2) HG1.out, blk_far HF1.out (p := ⟨gt, p, none⟩) (blk_ne HF1.out HG1.out (by decide)) _, HO1.out.putG p _, AG.ColL.finish H0.out hp (fun q hq => ?_) hl⟩
        · unfold AG.setAt
          split
          · omega
          · exact HS1.out q
        · obtain ⟨x, hx, rfl⟩ := List.mem_map.1 hq
          have := HQ.out.lt p hp x hx
          omega
end Go.Proofs.Ytbcmckfceeakhaa.Gv
end

section
set_option linter.unusedVariables false
set_option linter.unusedSimpArgs false
namespace Go.Proofs.Ytbcmckfceeakhaa.Gv
open Go.RowKit Go.Proofs.YtbcmckfceeakhaaW.PrintWords

section
variable (W : World) (o0 o1 o2 o3 o4 : Obj)
theorem al5_0 : (((((W.alloc o0).alloc o1).alloc o2).alloc o3).alloc o4).heap[W.heap.size]? = some o0 := blk_alloc (blk_alloc (blk_alloc (blk_alloc (blk_new W o0) o1) o2) o3) o4
theorem al5_1 : (((((W.alloc o0).alloc o1).alloc o2).alloc o3).alloc o4).heap[W.heap.size + 1]? = some o1 := by
  have := blk_alloc (blk_alloc (blk_alloc (blk_new (W.alloc o0) o1) o2) o3) o4
  rwa [World.size_alloc] at this
theorem al5_2 : (((((W.alloc o0).alloc o1).alloc o2).alloc o3).alloc o4).heap[W.heap.size + 1 + 1]? = some o2 := by
  have := blk_alloc (blk_alloc (blk_new ((W.alloc o0).alloc o1) o2) o3) o4
  rwa [World.size_alloc, World.size_alloc] at this
theorem al5_3 : (((((W.alloc o0).alloc o1).alloc o2).alloc o3).alloc o4).heap[W.heap.size + 1 + 1 + 1]? = some o3 := by
  have := blk_alloc (blk_new (((W.alloc o0).alloc o1).alloc o2) o3) o4
  rwa [World.size_alloc, World.size_alloc, World.size_alloc] at this
theorem al5_4 : (((((W.alloc o0).alloc o1).alloc o2).alloc o3).alloc o4).heap[W.heap.size + 1 + 1 + 1 + 1]? = some o4 := by
  have := blk_new ((((W.alloc o0).alloc o1).alloc o2).alloc o3) o4
  rwa [World.size_alloc, World.size_alloc, World.size_alloc, World.size_alloc] at this
theorem al5_b : Below W.heap.size W (((((W.alloc o0).alloc o1).alloc o2).alloc o3).alloc o4) := below_alloc (below_alloc (below_alloc (below_alloc (below_alloc (Below.refl _ _) _) _) _) _) _
end
/-- The world in which the search starts. -/
theorem cols_start {W : World} {B n G1 G2 : Nat} {rv : Nat → Value} {ll : Nat → List Int} (h : WebOwn W B n G1 G2 rv ll) (hlt : ∀ i, i < n → ∀ x ∈ ll i, 0 ≤ x ∧ x < n) (hlen : ∀ i, i < n → (ll i).length ≤ 1000000) :
    Cols (((((W.alloc (.cells #[.slice (some ⟨G1, 0, none⟩) n n, .slice (some ⟨G2, 0, none⟩) n n] 68)).alloc (.cells (hdr n 0 (colV fun _ => 0)) 3)).alloc (.cells #[.slice (some ⟨W.heap.size + 1, 0, none⟩) n n] 25)).alloc (.cells #[.bool false] 4)).alloc
      (.cells #[.func (.func 55) #[] #[.pointer (some ⟨W.heap.size + 1 + 1, 0, none⟩), .pointer (some ⟨W.heap.size, 0, none⟩), .pointer (some ⟨W.heap.size + 1 + 1 + 1, 0, none⟩), .pointer (some ⟨W.heap.size + 1 + 1 + 1 + 1, 0, none⟩)]] 76))
      B n G1 G2 (W.heap.size + 1) (W.heap.size + 1 + 1) W.heap.size (W.heap.size + 1 + 1 + 1) (W.heap.size + 1 + 1 + 1 + 1) rv ll :=
  ⟨al5_2 _ _ _ _ _ _, al5_0 _ _ _ _ _ _, al5_4 _ _ _ _ _ _, h.below (al5_b _ _ _ _ _ _), fun i hi k hk => by have := own_lt (h.rows i hi) k hk; omega, hlt, hlen⟩
theorem info3' : (Try.prog.info? 3).map (fun i => (i.zero, i.size, i.bytes)) = some (some (.int .i64 0), 1, 8) := by kernel_rfl
set_option maxRecDepth 100000 in
set_option maxHeartbeats 4000000 in
theorem cyclic_any (A0 : Option Addr) (c0 : Nat) (l0 : List Int) (w : World) (hr0 : Kd.C (Kd.int .u32) w A0 l0.length l0) (hok : okW l0) :
    Calls Try.prog 18 #[.slice A0 l0.length c0] w fun e w' => ∃ found : Bool, e = .returned (.bool found) ∧ (found = true ↔ 0 < l0.length ∧ AG.Cyc (nxL l0)) ∧ Below w.heap.size w w' := by
  have hl := hok.1
  have hmk : ∀ W : World, (Instr.makeSlice 25 (.int .i64 l0.length) (.int .i64 l0.length)).run Try.prog W = .ok (.slice (some ⟨W.heap.size, 0, none⟩) l0.length l0.length) (W.alloc (.cells (hdr l0.length 0 (colV fun _ => 0)) 3)) := by
    intro W
    have : colV (fun _ => 0) = fun _ => .int .i64 0 := rfl
    rw [this, ← made_hdr' (.int .i64 0) l0.length 0]
    exact run_make_row' 25 3 (.int .i64 0) 8 Try.underlying25 info3 rfl .i64 .i64 l0.length (by omega) (by omega) W
  have HR := Aside0.mk hr0
  have HOK := Aside0.mk hok
  clear hr0 hok
  by_cases hn : 0 < l0.length
  · go_enter Try.func18, Try.ntmps18
    go_wp2_with (first | (go_at_call 45; refine (weave_any A0 c0 l0 _ HR.out HOK.out).mono ?_; rintro e w1 ⟨G1, G2, rv, rfl, hO, hb⟩; have HO := Aside0.mk hO; have HB := Aside0.mk hb; clear hO hb) | (go_at_call 55; refine (cyc_any w.heap.size l0.length G1 G2 (w1.heap.size + 1) (w1.heap.size + 1 + 1) w1.heap.size (w1.heap.size + 1 + 1 + 1) (w1.heap.size + 1 + 1 + 1 + 1) rv (webA l0 l0.length) hl (fresh l0.length (fun _ => 0) + 1) (fun _ => 0) false 0 _ (Nat.lt_succ_self _) hn rfl (fun _ => Nat.zero_le _) (AG.Col.first _) (cols_start HO.out (fun i hi => web_lt HOK.out i) (fun i hi => web_len HOK.out i)) (al5_1 _ _ _ _ _ _) (al5_3 _ _ _ _ _ _)).mono ?_; rintro e w2 ⟨rfl, st', found, h22, hg2, hf2, ho2, hp2⟩; have c1 : w2.cell? ⟨w1.heap.size + 1 + 1 + 1, 0, none⟩ = some (.bool found) := blk_cell hf2 0; have ho2 := Aside0.mk ho2; have hp2 := Aside0.mk hp2; clear h22 hg2 hf2))
    go_ret
    have hnx : (fun i => (webA l0 l0.length i).map Int.toNat) = nxL l0 := by funext i; unfold nxL; rw [Nat.zero_add]
    have hp := hp2.out
    rw [hnx] at hp
    refine ⟨found, rfl, (hp.all hn).trans ⟨fun h => ⟨hn, h⟩, fun h => h.2⟩, ?_⟩
    have h1 := HB.out
    exact h1.trans (((al5_b _ _ _ _ _ _).mono h1.size).trans (ho2.out.below w.heap.size (by have := h1.size; omega) (by have := h1.size; omega)))
  · go_enter Try.func18, Try.ntmps18
    go_wp2_with (first | (go_at_call 45; refine (weave_any A0 c0 l0 _ HR.out HOK.out).mono ?_; rintro e w1 ⟨G1, G2, rv, rfl, hO, hb⟩; have HO := Aside0.mk hO; have HB := Aside0.mk hb; clear hO hb))
    go_ret
    refine ⟨false, rfl, ⟨fun h => absurd h (by decide), fun h => absurd h.1 hn⟩, ?_⟩
    have h1 := HB.out
    exact h1.trans ((al5_b _ _ _ _ _ _).mono h1.size)
open Classical in
noncomputable def graph_Cyclic.f (l0 : List Int) : Option (Bool) := if okW l0 then some (decide (0 < l0.length ∧ AG.Cyc (nxL l0))) else none
open Classical in
theorem graph_Cyclic.calls (A0 : Option Addr) (c0 : Nat) (l0 : List Int) (r : Bool) (w : World) (hr0 : Kd.C (Kd.int .u32) w A0 l0.length l0) (_hc0 : l0.length ≤ c0) (h : graph_Cyclic.f l0 = some r) :
    Calls Try.prog 18 #[.slice A0 l0.length c0] w fun e w' => e = .returned (.bool r) ∧ Below w.heap.size w w' := by
  unfold graph_Cyclic.f at h
  by_cases hok : okW l0
  · rw [if_pos hok] at h
    cases h
    refine (cyclic_any A0 c0 l0 w hr0 hok).mono ?_
    rintro e w' ⟨found, rfl, hf, hb⟩
    refine ⟨?_, hb⟩
    congr 2
    exact Bool.eq_iff_iff.2 (hf.trans decide_eq_true_iff.symm)
  · rw [if_neg hok] at h; cases h
end Go.Proofs.Ytbcmckfceeakhaa.Gv
end

section
set_option linter.unusedVariables false
set_option linter.unusedSimpArgs false
namespace Go.Proofs.Ytbcmckfceeakhaa.Gv
open Go.RowKit Go.Proofs.YtbcmckfceeakhaaW.PrintWords Go.Proofs.Ytbcmckfceeakhaa.GL

theorem AH.move {W W' wr w' : World} {B n G1 G2 bw gr sR H : Nat} {rv : Nat → Value} {ll : Nat → List Int} {ov : Nat → Value} {os : Nat → Nat} {k : Nat} (h : AH W wr B n G1 G2 bw gr sR H rv ll ov os k)
    (hm : ∀ (g t : Nat) (cs : Array Value), wr.heap[g]? = some (Obj.cells cs t (0, 0)) → t ≠ 40 → w'.heap[g]? = wr.heap[g]?) (hb : W'.heap.size ≤ H) (hB : Below W'.heap.size W' w') : AH W' w' B n G1 G2 bw gr sR H rv ll ov os k := by
  refine ⟨(hm _ _ _ h.hw (by decide)).trans h.hw, h.ho.step' fun b hb => ?_, (hm _ _ _ h.hr (by decide)).trans h.hr, (hm _ _ _ h.hH (by decide)).trans h.hH, fun i hi => let ⟨g, h1, h2⟩ := h.outs i hi; ⟨g, h1, (hm _ _ _ h2 (by decide)).trans h2⟩, h.lt, hb, hB⟩
  rcases hb with rfl | rfl | ⟨i, hi, hb⟩
  · exact hm _ _ _ h.ho.h1 (by decide)
  · exact hm _ _ _ h.ho.h2 (by decide)
  · obtain ⟨cs', hc⟩ := own_typed (h.ho.rows i hi) b hb
    exact hm _ _ _ hc (by decide)
open Classical in
/-- The ways back of a place's first ways. -/
noncomputable def bkOf (l : List Int) (p : Nat) (ys : List Int) : List S40 := (ys.filter fun q => decide (aheadP l q.toNat p)).map fun q => ⟨(p : Int), q⟩
noncomputable def backsTo (l : List Int) (p : Nat) : List S40 := ((List.range p).map fun p' => bkOf l p' (nextL l p')).flatten
open Classical in
theorem bkOf_yes {l : List Int} {p q : Nat} {ys : List Int} (h : aheadP l q p) : bkOf l p (ys ++ [(q : Int)]) = bkOf l p ys ++ [⟨(p : Int), (q : Int)⟩] := by
  unfold bkOf
  rw [List.filter_append, List.map_append]
  congr 1
  have : decide (aheadP l ((q : Int)).toNat p) = true := decide_eq_true (by rw [Int.toNat_natCast]; exact h)
  rw [List.filter_cons_of_pos (p := fun q : Int => decide (aheadP l q.toNat p)) this]
  rfl
open Classical in
theorem bkOf_no {l : List Int} {p q : Nat} {ys : List Int} (h : ¬ aheadP l q p) : bkOf l p (ys ++ [(q : Int)]) = bkOf l p ys := by
  unfold bkOf
  rw [List.filter_append, List.map_append]
  have : ¬ decide (aheadP l ((q : Int)).toNat p) = true := by rw [decide_eq_true_iff, Int.toNat_natCast]; exact h
  rw [List.filter_cons_of_neg (p := fun q : Int => decide (aheadP l q.toNat p)) this]
  simp
theorem bkOf_len (l : List Int) (p : Nat) (ys : List Int) : (bkOf l p ys).length ≤ ys.length := by
  unfold bkOf; rw [List.length_map]; exact List.length_filter_le _ _
theorem backsTo_succ (l : List Int) (p : Nat) : backsTo l (p + 1) = backsTo l p ++ bkOf l p (nextL l p) := by
  unfold backsTo; rw [List.range_succ, List.map_append, List.flatten_append]; simp
theorem backsTo_len (l : List Int) : ∀ p, (backsTo l p).length ≤ 2 * p
  | 0 => by simp [backsTo]
  | p + 1 => by
    have h1 := backsTo_len l p
    have h2 := bkOf_len l p (nextL l p)
    have h3 := nextL_len l p
    rw [backsTo_succ, List.length_append]; omega
set_option maxRecDepth 100000 in
set_option maxHeartbeats 8000000 in
theorem backs_any (l0 : List Int) (hok : okW l0) (W : World) (B G1 G2 : Nat) (rv : Nat → Value) (hO : WebOwn W B l0.length G1 G2 rv (webA l0 l0.length)) :
    Calls Try.prog 46 #[.agg #[.slice (some ⟨G1, 0, none⟩) l0.length l0.length, .slice (some ⟨G2, 0, none⟩) l0.length l0.length]] W fun e w' => ∃ v0_, e = .returned v0_ ∧ Kd.R k40 40 w' W.heap.size (fun _ => True) v0_ (backsTo l0 l0.length) ∧ Below W.heap.size W w' := by
  have hl := hok.1
  have HOK := Aside0.mk hok
  have HOW := Aside0.mk (hO.alloc (.cells #[.slice (some ⟨G1, 0, none⟩) l0.length l0.length, .slice (some ⟨G2, 0, none⟩) l0.length l0.length] 68 (0, 0)))
  have HBW := Aside0.mk (below_alloc (Below.refl W.heap.size W) (.cells #[.slice (some ⟨G1, 0, none⟩) l0.length l0.length, .slice (some ⟨G2, 0, none⟩) l0.length l0.length] 68 (0, 0)))
  have HWW := Aside0.mk (blk_new W (.cells #[.slice (some ⟨G1, 0, none⟩) l0.length l0.length, .slice (some ⟨G2, 0, none⟩) l0.length l0.length] 68 (0, 0)))
  have cw : (W.alloc (.cells #[.slice (some ⟨G1, 0, none⟩) l0.length l0.length, .slice (some ⟨G2, 0, none⟩) l0.length l0.length] 68 (0, 0))).cell? ⟨W.heap.size, 0, none⟩ = some (.slice (some ⟨G1, 0, none⟩) l0.length l0.length) := blk_cell HWW.out 0
  have cw1 : (W.alloc (.cells #[.slice (some ⟨G1, 0, none⟩) l0.length l0.length, .slice (some ⟨G2, 0, none⟩) l0.length l0.length] 68 (0, 0))).cell? ⟨W.heap.size, 1, none⟩ = some (.slice (some ⟨G2, 0, none⟩) l0.length l0.length) := blk_cell HWW.out 1
  clear hO hok
  go_enter Try.func46, Try.ntmps46
  go_wp2_with (first | (go_at_call 54; refine (aheads_any l0 HOK.out _ B G1 G2 rv HOW.out).mono ?_; rintro e w2 ⟨bw, gr, sR, H, ov, os, rfl, hA, hS⟩; have HB2 := Aside0.mk (HBW.out.trans (hA.below.mono HBW.out.size)); have hw2 := (hA.below.block _ (blk_lt HWW.out)).trans HWW.out; have c2 : w2.cell? ⟨W.heap.size, 0, none⟩ = some (.slice (some ⟨G1, 0, none⟩) l0.length l0.length) := blk_cell hw2 0; have HA := Aside0.mk hA; have HS := Aside0.mk hS; clear hA hS hw2))
  have HAW := Aside0.mk (HA.out.move (W' := W) (fun _ _ _ _ _ => rfl) (Nat.le_trans HBW.out.size HA.out.base) HB2.out)
  clear HOW HBW HWW HB2 HA cw cw1 c2
  go_loopw [4, 14] (fun v i wr => ∃ (p : Nat), p ≤ l0.length ∧ i = .int .i64 p ∧ Aside0 (AH W wr B l0.length G1 G2 bw gr sR H rv (webA l0 l0.length) ov os l0.length) ∧ Aside0 (Kd.R k40 40 wr W.heap.size (fun _ => True) v (backsTo l0 p))) (fun _ i _ => l0.length - (intOf i).toNat)
  case atStart => exact ⟨0, by omega, rfl, HAW, ⟨Kd.R_nil _ _ _ _ _⟩⟩
  case round =>
    clear HAW
    rename_i v _
    obtain ⟨p, hp, rfl, HA, HV⟩ := hrel
    by_cases hlt : p < l0.length
    · obtain ⟨A, c, hv⟩ := own_slice (HA.out.ho.rows p (by omega))
      have hww : webA l0 l0.length p = nextL l0 p := by unfold webA; rw [if_pos hlt, if_pos hlt]
      rw [hww] at hv
      have c2 : wr.cell? ⟨G1, p, none⟩ = some (.slice A (nextL l0 p).length c) := (HA.out.ho.cell1 hlt).trans (by rw [hv])
      have hN := nextL_len l0 p
      have HW := Lib.hid hww
      have HRV := Lib.hid hv
      clear hww hv
      go_wp2_with fail
      go_loopw [4, 21] (fun v i wr => ∃ (j : Nat), j ≤ (nextL l0 p).length ∧ i = .int .i64 j ∧ Aside0 (AH W wr B l0.length G1 G2 bw gr sR H rv (webA l0 l0.length) ov os l0.length) ∧ Aside0 (Kd.R k40 40 wr W.heap.size (fun _ => True) v (backsTo l0 p ++ bkOf l0 p ((nextL l0 p).take j)))) (fun _ i _ => (nextL l0 p).length - (intOf i).toNat)
      case atStart => exact ⟨0, by omega, rfl, HA, ⟨by have := HV.out; simpa [bkOf] using this⟩⟩
      case round =>
        clear HA HV c2
        rename_i v2 _
        obtain ⟨j, hj, rfl, HA, HV⟩ := hrel
        by_cases hjl : j < (nextL l0 p).length
        · have hqm := nextL_lt HOK.out (List.getElem_mem hjl)
          obtain ⟨q, hq⟩ : ∃ q : Nat, (nextL l0 p)[j] = q := ⟨((nextL l0 p)[j]).toNat, by omega⟩
          have hqn : q < l0.length := by omega
          have hrow := HA.out.ho.rows p (by omega)
          rw [HW.out, HRV.out] at hrow
          obtain ⟨_, hcs⟩ := own_cases hrow
          rcases hcs with ⟨_, hz, _⟩ | ⟨g, c', hv', _, _, _, hH⟩
          · omega
          injection hv' with hA _ hC
          subst hA hC
          have hx : wr.cell? ⟨g, j, none⟩ = some (.int .i64 q) := by
            have := (hH j (by simpa using hjl)).1
            rw [Nat.zero_add] at this
            rw [this, ← hq]
            simp [hjl]
          obtain ⟨gp, hov, hgp⟩ := HA.out.outs p hlt
          have c3 : wr.cell? ⟨H, p, none⟩ = some (.slice (some ⟨gp, 0, none⟩) (words l0.length) (words l0.length)) := (HA.out.cell hlt).trans (by rw [hov])
          have HGP := Aside0.mk hgp
          have htk : (nextL l0 p).take (j + 1) = (nextL l0 p).take j ++ [(q : Int)] := by
            rw [List.take_succ_eq_append_getElem hjl, hq]
          have HTK := Lib.hid htk
          clear hH hq hqm hrow hov hgp htk
          have hiff := HS.out p hlt q
          have HIFF := Aside0.mk hiff
          clear hiff
          have HXL : Aside0 ((backsTo l0 p ++ bkOf l0 p ((nextL l0 p).take j)).length ≤ 1000) := ⟨by
            have h1 := backsTo_len l0 p
            have h2 := bkOf_len l0 p ((nextL l0 p).take j)
            rw [List.length_take] at h2
            rw [List.length_append]
            omega⟩
          by_cases hb : (os p).testBit q = true
          · have hb' : AG.has (os p) q := hb
            have HB' := Aside0.mk hb'
            clear hb'
            go_wp2_with (first | (go_at_call 52; refine (set_hasN hl hqn (HA.out.lt p hlt) HGP.out).mono ?_; rintro e w' ⟨rfl, t, rfl⟩) | ((with_reducible refine gate_builtin (b := .append) (xs := #[.tmp 31, .tmp 35]) rfl ?_); at_builtin; refine Kd.R_append k40 (w0 := W) W.heap.size rfl (.tmp 31) (.tmp 35) 36 40 (.agg #[(.int .i64 0), (.int .i64 0)]) 16 rfl Try.underlying36 info40 rfl (by decide) (by omega) _ (backsTo l0 p ++ bkOf l0 p ((nextL l0 p).take j)) (⟨(p : Int), (q : Int)⟩ : S40) [.int .i64 p, .int .i64 q] (fun _ => True) (fun _ => False) rfl rfl (k40_mkM _ _ _ _) (fun _ hk => hk.elim) (fun _ _ => trivial) (Kd.R_drewN HV.out t) (pw_below_drewN HA.out.below t) (pw_below_drewN HA.out.below t).size ?aL ?_; (case aL => have := HXL.out; omega); intro v200 w12 ho hbb hg hat))
            go_roundw
            case rel =>
              refine ⟨j + 1, by omega, by go_num, ⟨HA.out.move (fun g t' cs hk ht => ?_) HA.out.base hbb⟩, ⟨?_⟩⟩
              · refine (hg.block g (blk_lt hk) fun e => ?_).trans rfl
                obtain ⟨cs', hc⟩ := Kd.R_typed HV.out g e.symm
                rw [hc] at hk
                cases hk
                exact ht rfl
              · rw [HTK.out, bkOf_yes ⟨((HIFF.out).1 HB'.out).1, ((HIFF.out).1 HB'.out).2.2⟩, ← List.append_assoc]
                exact ho
            case measure => simp [intOf]; omega
          · have hb1 : (os p).testBit q = false := by simpa using hb
            go_wp2_with (first | (go_at_call 52; refine (set_hasN hl hqn (HA.out.lt p hlt) HGP.out).mono ?_; rintro e w' ⟨rfl, t, rfl⟩))
            go_roundw
            case rel =>
              refine ⟨j + 1, by omega, by go_num, ⟨HA.out.move (fun _ _ _ _ _ => rfl) HA.out.base (pw_below_drewN HA.out.below t)⟩, ⟨?_⟩⟩
              rw [HTK.out, bkOf_no fun h => hb ((HIFF.out).2 ⟨h.1, hqn, h.2⟩)]
              exact Kd.R_drewN HV.out t
            case measure => simp [intOf]; omega
        · obtain rfl : j = (nextL l0 p).length := by omega
          go_wp2_with fail
          go_roundw
          case rel => exact ⟨p + 1, by omega, by go_num, HA, ⟨by have := HV.out; rw [List.take_length] at this; rw [backsTo_succ]; exact this⟩⟩
          case measure => simp [intOf]; omega
    · obtain rfl : p = l0.length := by omega
      go_wp2_with fail
      go_ret
      exact ⟨_, rfl, HV.out, HA.out.below⟩
end Go.Proofs.Ytbcmckfceeakhaa.Gv
namespace Go.Proofs.Ytbcmckfceeakhaa.Gv
open Go.RowKit Go.Proofs.YtbcmckfceeakhaaW.PrintWords Go.Proofs.Ytbcmckfceeakhaa.GL
open Classical in
noncomputable def graph_Backs.f (l0 : List Int) : Option ((List (S40))) := if okW l0 then some (backsTo l0 l0.length) else none
set_option maxRecDepth 100000 in
set_option maxHeartbeats 4000000 in
theorem graph_Backs.calls (A0 : Option Addr) (c0 : Nat) (l0 : List Int) (r : List (S40)) (w : World) (hr0 : Kd.C (Kd.int .u32) w A0 l0.length l0) (_hc0 : l0.length ≤ c0) (h : graph_Backs.f l0 = some r) :
    Calls Try.prog 15 #[.slice A0 l0.length c0] w fun e w' => ∃ v0_ : Value, e = .returned (v0_) ∧ Kd.R k40 40 w' w.heap.size (fun _ => True) v0_ r ∧ Below w.heap.size w w' := by
  unfold graph_Backs.f at h
  by_cases hok : okW l0
  · rw [if_pos hok] at h
    cases h
    have HR := Aside0.mk hr0
    have HOK := Aside0.mk hok
    clear hr0 hok
    go_enter Try.func15, Try.ntmps15
    go_wp2_with (first | (go_at_call 45; refine (weave_any A0 c0 l0 _ HR.out HOK.out).mono ?_; rintro e w1 ⟨G1, G2, rv, rfl, hO, hb⟩; have HO := Aside0.mk hO; have HB := Aside0.mk hb; clear hO hb) | (go_at_call 46; refine (backs_any l0 HOK.out _ _ G1 G2 rv HO.out).mono ?_; rintro e w2 ⟨v0, rfl, hv, hb⟩; have HV := Aside0.mk hv; have HB2 := Aside0.mk hb; clear hv hb))
    go_ret
    exact ⟨_, rfl, Kd.R_lower HV.out HB.out.size, HB.out.trans (HB2.out.mono HB.out.size)⟩
  · rw [if_neg hok] at h; cases h
end Go.Proofs.Ytbcmckfceeakhaa.Gv
end

section
set_option linter.unusedVariables false
set_option linter.unusedSimpArgs false
namespace Go.Proofs.Ytbcmckfceeakhaa.Gv
open Go.RowKit Go.Proofs.YtbcmckfceeakhaaW.PrintWords Go.Proofs.Ytbcmckfceeakhaa.GL

/-- A set's places, rising. -/
def listTo (s p : Nat) : List Int := ((List.range p).filter fun q => s.testBit q).map fun q : Nat => (q : Int)
theorem listTo_yes {s p : Nat} (h : s.testBit p = true) : listTo s (p + 1) = listTo s p ++ [(p : Int)] := by
  unfold listTo
  rw [List.range_succ, List.filter_append, List.map_append, List.filter_cons_of_pos (p := fun q => s.testBit q) h]
  rfl
theorem listTo_no {s p : Nat} (h : s.testBit p = false) : listTo s (p + 1) = listTo s p := by
  unfold listTo
  rw [List.range_succ, List.filter_append, List.map_append, List.filter_cons_of_neg (p := fun q => s.testBit q) (by rw [h]; decide)]
  simp
theorem listTo_len (s p : Nat) : (listTo s p).length ≤ p := by
  unfold listTo
  rw [List.length_map]
  exact Nat.le_trans (List.length_filter_le _ _) (by simp)
set_option maxRecDepth 100000 in
set_option maxHeartbeats 4000000 in
theorem set_list {W : World} {g s n : Nat} (hn : n ≤ 64) (hs : s < 2 ^ n) (hg : W.heap[g]? = some (.cells (setCells n s) 77 (0, 0))) :
    Calls Try.prog 53 #[.slice (some ⟨g, 0, none⟩) (words n) (words n), .int .i64 n] W fun e w' => ∃ v0_, e = .returned v0_ ∧ Kd.R (Kd.int .i64) 3 w' W.heap.size (fun _ => True) v0_ (listTo s n) ∧ Below W.heap.size W w' := by
  have HG := Aside0.mk hg
  have HS := Aside0.mk hs
  have HB := Aside0.mk (Below.refl W.heap.size W)
  clear hg hs
  go_enter Try.func53, Try.ntmps53
  go_wp2_with fail
  go_loopw [5, 8] (fun v i wr => ∃ (p : Nat), p ≤ n ∧ i = .int .i64 p ∧ Aside0 (wr.heap[g]? = some (.cells (setCells n s) 77 (0, 0))) ∧ Aside0 (Below W.heap.size W wr) ∧ Aside0 (Kd.R (Kd.int .i64) 3 wr W.heap.size (fun _ => True) v (listTo s p))) (fun _ i _ => n - (intOf i).toNat)
  case atStart => exact ⟨0, by omega, rfl, HG, HB, ⟨Kd.R_nil _ _ _ _ _⟩⟩
  case round =>
    clear HG HB
    obtain ⟨p, hp, rfl, HG, HB, HV⟩ := hrel
    by_cases hlt : p < n
    · have HXL := Aside0.mk (listTo_len s p)
      by_cases hb : s.testBit p = true
      · have HB' := Aside0.mk hb
        go_wp2_with (first | (go_at_call 52; refine (set_hasN hn hlt HS.out HG.out).mono ?_; rintro e w' ⟨rfl, t, rfl⟩) | ((with_reducible refine gate_builtin (b := .append) (xs := #[.tmp 14, .tmp 16]) rfl ?_); at_builtin; refine Kd.R_append (Kd.int .i64) (w0 := W) W.heap.size rfl (.tmp 14) (.tmp 16) 25 3 (.int .i64 0) 8 rfl Try.underlying25 Gv.info3 rfl (by decide) (by omega) _ (listTo s p) (p : Int) [.int .i64 p] (fun _ => True) (fun _ => False) rfl rfl rfl (fun _ hk => hk.elim) (fun _ _ => trivial) (Kd.R_drewN HV.out t) (pw_below_drewN HB.out t) (pw_below_drewN HB.out t).size ?aL ?_; (case aL => have := HXL.out; omega); intro v200 w12 ho hbb hg hat))
        go_roundw
        case rel =>
          refine ⟨p + 1, by omega, by go_num, ⟨(hg.block g (blk_lt HG.out) fun e => ?_).trans HG.out⟩, ⟨hbb⟩, ⟨by rw [listTo_yes HB'.out]; exact ho⟩⟩
          obtain ⟨cs', hc⟩ := Kd.R_typed HV.out g e.symm
          have := HG.out
          rw [hc] at this
          cases this
        case measure => simp [intOf]; omega
      · have hb1 : s.testBit p = false := by simpa using hb
        go_wp2_with (first | (go_at_call 52; refine (set_hasN hn hlt HS.out HG.out).mono ?_; rintro e w' ⟨rfl, t, rfl⟩))
        go_roundw
        case rel => exact ⟨p + 1, by omega, by go_num, ⟨blk_drewN HG.out t⟩, ⟨pw_below_drewN HB.out t⟩, ⟨by rw [listTo_no hb1]; exact Kd.R_drewN HV.out t⟩⟩
        case measure => simp [intOf]; omega
    · obtain rfl : p = n := by omega
      go_wp2_with fail
      go_ret
      exact ⟨_, rfl, HV.out, HB.out⟩
end Go.Proofs.Ytbcmckfceeakhaa.Gv
end

section
set_option linter.unusedVariables false
set_option linter.unusedSimpArgs false
namespace Go.Proofs.Ytbcmckfceeakhaa.Gv
open Go.RowKit Go.Proofs.YtbcmckfceeakhaaW.PrintWords Go.Proofs.Ytbcmckfceeakhaa.GL

def barL (sR : Nat) (h : Int) (p : Nat) : Bool := decide ((p : Int) = h) || !(sR.testBit p)
set_option maxRecDepth 100000 in
set_option maxHeartbeats 4000000 in
theorem bar_any {X : World} {bH bR gr sR n p : Nat} {h : Int} (hn : n ≤ 64) (hp : p < n) (hs : sR < 2 ^ n) (h1 : X.heap[bH]? = some (.cells #[.int .i64 h] 3 (0, 0))) (h2 : X.heap[bR]? = some (.cells #[.slice (some ⟨gr, 0, none⟩) (words n) (words n)] 72 (0, 0)))
    (h3 : X.heap[gr]? = some (.cells (setCells n sR) 77 (0, 0))) :
    Calls Try.prog 51 (#[.int .i64 (p : Nat)] ++ #[.pointer (some ⟨bH, 0, none⟩), .pointer (some ⟨bR, 0, none⟩)]) X fun e w' => e = .returned (.bool (barL sR h p)) ∧ ∃ q, w' = X.drewN q := by
  show Calls Try.prog 51 #[.int .i64 (p : Nat), .pointer (some ⟨bH, 0, none⟩), .pointer (some ⟨bR, 0, none⟩)] X _
  have hnot : ∀ (x : Bool) (w : World), (Op.unary .not (.bool x)).run Try.prog w = .ok (.bool (!x)) w := fun _ _ => rfl
  have c1 : X.cell? ⟨bH, 0, none⟩ = some (.int .i64 h) := blk_cell h1 0
  have c2 : X.cell? ⟨bR, 0, none⟩ = some (.slice (some ⟨gr, 0, none⟩) (words n) (words n)) := blk_cell h2 0
  have H3 := Aside0.mk h3
  clear h1 h2 h3
  unfold barL
  by_cases e : (p : Int) = h
  · subst e
    go_enter Try.func51, Try.ntmps51
    go_wp2_with fail
    go_ret
    exact ⟨by simp, 0, rfl⟩
  · have e' : ((p : Int) == h) = false := by simpa using e
    go_enter Try.func51, Try.ntmps51
    go_wp2_with (first | (go_at_call 52; refine (set_hasN hn hp hs H3.out).mono ?_; rintro e w' ⟨rfl, t, rfl⟩))
    go_ret
    exact ⟨by simp [e], t, rfl⟩
theorem enters51 (args : Array Value) (W : World) : (callFunc 51 args).run Try.prog W = .ok (.enter 51 args) W := by
  simp [enters_of Try.func51 (by kernel_rfl) rfl args W]
/-- What stands while the loop's places are gathered. -/
structure LP (W wr : World) (B n G1 G2 bH bW bR gr sR gs : Nat) (h : Int) (rv : Nat → Value) (ll : Nat → List Int) (v : Value) (xs : List S40) (s : Nat) : Prop where
  hh : wr.heap[bH]? = some (.cells #[.int .i64 h] 3 (0, 0))
  hw : wr.heap[bW]? = some (.cells #[.slice (some ⟨G1, 0, none⟩) n n, .slice (some ⟨G2, 0, none⟩) n n] 68 (0, 0))
  hr : wr.heap[bR]? = some (.cells #[.slice (some ⟨gr, 0, none⟩) (words n) (words n)] 72 (0, 0))
  hg : wr.heap[gr]? = some (.cells (setCells n sR) 77 (0, 0))
  ho : WebOwn wr B n G1 G2 rv ll
  hv : Kd.R k40 40 wr B (fun _ => True) v xs
  hs : wr.heap[gs]? = some (.cells (setCells n s) 77 (0, 0))
  lt : s < 2 ^ n
  ne : gr ≠ gs
  base : W.heap.size ≤ gs
  below : Below W.heap.size W wr
/-- New blocks alone. -/
theorem LP.step {W wr w' : World} {B n G1 G2 bH bW bR gr sR gs : Nat} {h : Int} {rv : Nat → Value} {ll : Nat → List Int} {v : Value} {xs : List S40} {s : Nat} (k : LP W wr B n G1 G2 bH bW bR gr sR gs h rv ll v xs s) (hb : Below wr.heap.size wr w') : LP W w' B n G1 G2 bH bW bR gr sR gs h rv ll v xs s :=
  ⟨(hb.block _ (blk_lt k.hh)).trans k.hh, (hb.block _ (blk_lt k.hw)).trans k.hw, (hb.block _ (blk_lt k.hr)).trans k.hr, (hb.block _ (blk_lt k.hg)).trans k.hg, k.ho.below hb, Kd.R_below k.hv hb, (hb.block _ (blk_lt k.hs)).trans k.hs, k.lt, k.ne, k.base, k.below.trans (hb.mono k.below.size)⟩
/-- The set's own change. -/
theorem LP.turn {W wr w' : World} {B n G1 G2 bH bW bR gr sR gs : Nat} {h : Int} {rv : Nat → Value} {ll : Nat → List Int} {v : Value} {xs : List S40} {s s' : Nat} (k : LP W wr B n G1 G2 bH bW bR gr sR gs h rv ll v xs s) (ho : Only gs wr w') (hs : w'.heap[gs]? = some (.cells (setCells n s') 77 (0, 0))) (hlt : s' < 2 ^ n) : LP W w' B n G1 G2 bH bW bR gr sR gs h rv ll v xs s' := by
  have hm : ∀ {b t : Nat} {cs : Array Value}, wr.heap[b]? = some (.cells cs t (0, 0)) → t ≠ 77 → w'.heap[b]? = wr.heap[b]? := fun hb ht => ho.keep _ (blk_lt hb) (blk_ne hb k.hs ht)
  refine ⟨(hm k.hh (by decide)).trans k.hh, (hm k.hw (by decide)).trans k.hw, (hm k.hr (by decide)).trans k.hr, (ho.keep _ (blk_lt k.hg) k.ne).trans k.hg, k.ho.step' fun b hb => ?_, ?_, hs, hlt, k.ne, k.base, k.below.trans (ho.below _ k.base)⟩
  · rcases hb with rfl | rfl | ⟨i, hi, hb⟩
    · exact hm k.ho.h1 (by decide)
    · exact hm k.ho.h2 (by decide)
    · obtain ⟨cs', hc⟩ := own_typed (k.ho.rows i hi) b hb
      exact hm hc (by decide)
  · refine Kd.R_mono (Kd.R_move (Kd.R_bound k.hv) (fun b hb => ?_)) fun _ hk => hk.1
    obtain ⟨_, _, _, q, hq, cells, hc⟩ := hb
    exact hm hc (by
      rcases List.mem_cons.1 hq with rfl | hq
      · decide
      · exact absurd (show q ∈ ([] : List Nat) from hq) (by simp))
theorem rd40_get {xs : List S40} {j : Nat} (hj : j < xs.length) : rd_T40 xs (j : Int) = xs[j] := by
  unfold rd_T40
  rw [Int.toNat_natCast, List.getD_eq_getElem?_getD, List.getElem?_eq_getElem hj]
  rfl
theorem take_ex {xs : List S40} {j : Nat} (hj : j < xs.length) {Q : S40 → Prop} : (∃ b, b ∈ xs.take (j + 1) ∧ Q b) ↔ (∃ b, b ∈ xs.take j ∧ Q b) ∨ Q (rd_T40 xs (j : Int)) := by
  rw [List.take_succ_eq_append_getElem hj, rd40_get hj]
  constructor
  · rintro ⟨b, hb, hq⟩
    rcases List.mem_append.1 hb with hb | hb
    · exact .inl ⟨b, hb, hq⟩
    · obtain rfl := List.mem_singleton.1 hb; exact .inr hq
  · rintro (⟨b, hb, hq⟩ | hq)
    · exact ⟨b, List.mem_append_left _ hb, hq⟩
    · exact ⟨_, List.mem_append_right _ (List.mem_singleton.2 rfl), hq⟩
open Classical in
theorem backs_mem {l : List Int} {n : Nat} {b : S40} (h : b ∈ backsTo l n) : ∃ p : Nat, p < n ∧ b.f0 = p ∧ b.f1 ∈ nextL l p ∧ aheadP l b.f1.toNat p := by
  unfold backsTo at h
  obtain ⟨r, hr, hb⟩ := List.mem_flatten.1 h
  obtain ⟨p, hp, rfl⟩ := List.mem_map.1 hr
  unfold bkOf at hb
  obtain ⟨q, hq, rfl⟩ := List.mem_map.1 hb
  obtain ⟨h1, h2⟩ := List.mem_filter.1 hq
  exact ⟨p, List.mem_range.1 hp, rfl, h1, of_decide_eq_true h2⟩
end Go.Proofs.Ytbcmckfceeakhaa.Gv
end

section
set_option linter.unusedVariables false
set_option linter.unusedSimpArgs false
namespace Go.Proofs.Ytbcmckfceeakhaa.Gv
open Go.RowKit Go.Proofs.YtbcmckfceeakhaaW.PrintWords Go.Proofs.Ytbcmckfceeakhaa.GL

set_option maxRecDepth 100000 in
set_option maxHeartbeats 8000000 in
theorem loop_any (A0 : Option Addr) (c0 : Nat) (l0 : List Int) (h : Int) (w : World) (hr0 : Kd.C (Kd.int .u32) w A0 l0.length l0) (hok : okW l0) :
    Calls Try.prog 16 #[.slice A0 l0.length c0, .int .i64 h] w fun e w' => ∃ v0_ s, e = .returned v0_ ∧ Kd.R (Kd.int .i64) 3 w' w.heap.size (fun _ => True) v0_ (listTo s l0.length) ∧ Below w.heap.size w w' ∧
      (∃ sR : Nat, (∀ q, AG.has sR q ↔ 0 < l0.length ∧ AG.Rch (nxL l0) (fun _ => True) 0 q) ∧ ∀ x, AG.has s x ↔ ∃ b, b ∈ backsTo l0 l0.length ∧ b.f1 = h ∧ ((x : Int) = h ∨ AG.Rch (bkL l0) (fun q => barL sR h q = false) b.f0.toNat x)) := by
  have hl := hok.1
  have HOK := Aside0.mk hok
  have HR := Aside0.mk (Kd.C_below hr0 (below_alloc (Below.refl _ _) (.cells #[.int .i64 h] 3 (0, 0))))
  have HH := Aside0.mk (blk_new w (.cells #[.int .i64 h] 3 (0, 0)))
  have HB0 := Aside0.mk (below_alloc (Below.refl w.heap.size w) (.cells #[.int .i64 h] 3 (0, 0)))
  clear hr0 hok
  go_enter Try.func16, Try.ntmps16
  go_wp2_with (first | (go_at_call 45; refine (weave_any A0 c0 l0 _ HR.out HOK.out).mono ?_; rintro e w1 ⟨G1, G2, rv, rfl, hO, hb⟩; have HO := Aside0.mk hO; have HB := Aside0.mk hb; have HWA := Aside0.mk (blk_new w1 (.cells #[.slice (some ⟨G1, 0, none⟩) l0.length l0.length, .slice (some ⟨G2, 0, none⟩) l0.length l0.length] 68 (0, 0))); have HOA := Aside0.mk (hO.alloc (.cells #[.slice (some ⟨G1, 0, none⟩) l0.length l0.length, .slice (some ⟨G2, 0, none⟩) l0.length l0.length] 68 (0, 0))); clear hO hb) | (go_at_call 47; refine (spread_any _ l0.length G1 0 0 rv _ 48 #[] (fun _ => false) hl _ (rows_next HOK.out HOA.out) enters48 (fun X p _ _ => free_any X p)).mono ?_; rintro e w2 ⟨gr, sR, rfl, hgs, hs, hs2, hb2, hS⟩; have HGS := Aside0.mk hgs; have HS := Aside0.mk hs; have HS2 := Aside0.mk hs2; have HB2 := Aside0.mk hb2; have HX := Aside0.mk hS; clear hgs hs hs2 hb2 hS) | (go_at_call 49; refine (set_none' l0.length hl _).mono ?_; rintro e w3 ⟨rfl, hg3, hb3⟩; rw [World.size_alloc] at hg3; have HG3 := Aside0.mk hg3; have HB3 := Aside0.mk hb3; have HW3 := Aside0.mk ((hb3.block _ (blk_lt (blk_alloc ((HB2.out.block _ (blk_lt HWA.out)).trans HWA.out) _))).trans (blk_alloc ((HB2.out.block _ (blk_lt HWA.out)).trans HWA.out) _)); have c1 : w3.cell? ⟨w1.heap.size, 0, none⟩ = some (.slice (some ⟨G1, 0, none⟩) l0.length l0.length) := blk_cell HW3.out 0; have c2 : w3.cell? ⟨w1.heap.size, 1, none⟩ = some (.slice (some ⟨G2, 0, none⟩) l0.length l0.length) := blk_cell HW3.out 1; clear hg3 hb3) | (go_at_call 46; refine (backs_any l0 HOK.out _ _ G1 G2 rv ((HOA.out.below HB2.out).alloc _ |>.below HB3.out)).mono ?_; rintro e w4 ⟨v0, rfl, hv, hb4⟩; obtain ⟨Av, cv, rfl, _, _⟩ := Kd.R_reads hv; have HV := Aside0.mk hv; have HB4 := Aside0.mk hb4; clear hv hb4))
  have HZ2 := Aside0.mk (blk_new w2 (.cells #[.slice (some ⟨gr, 0, none⟩) (words l0.length) (words l0.length)] 72 (0, 0)))
  have HB24 := Aside0.mk ((below_alloc (Below.refl w2.heap.size w2) (.cells #[.slice (some ⟨gr, 0, none⟩) (words l0.length) (words l0.length)] 72 (0, 0))).trans ((HB3.out.trans (HB4.out.mono HB3.out.size)).mono (by rw [World.size_alloc]; omega)))
  have HB34 := Aside0.mk (HB3.out.trans (HB4.out.mono HB3.out.size))
  have HB14 := Aside0.mk (show Below w1.heap.size w1 w4 from (below_alloc (Below.refl w1.heap.size w1) (.cells #[.slice (some ⟨G1, 0, none⟩) l0.length l0.length, .slice (some ⟨G2, 0, none⟩) l0.length l0.length] 68 (0, 0))).trans ((HB2.out.trans (HB24.out.mono HB2.out.size)).mono (by rw [World.size_alloc]; omega)))
  have HB04 := Aside0.mk (show Below (w.alloc (.cells #[.int .i64 h] 3)).heap.size (w.alloc (.cells #[.int .i64 h] 3)) w4 from HB.out.trans (HB14.out.mono HB.out.size))
  have HSZ := Aside0.mk (show (w.alloc (.cells #[.int .i64 h] 3)).heap.size ≤ w3.heap.size from Nat.le_trans HB.out.size (by
    have h1 := HB2.out.size
    have h2 := HB3.out.size
    rw [World.size_alloc] at h1 h2
    omega))
  have HB14 := Aside0.mk (show Below w1.heap.size w1 w4 from (below_alloc (Below.refl w1.heap.size w1) (.cells #[.slice (some ⟨G1, 0, none⟩) l0.length l0.length, .slice (some ⟨G2, 0, none⟩) l0.length l0.length] 68 (0, 0))).trans ((HB2.out.trans (HB24.out.mono HB2.out.size)).mono (by rw [World.size_alloc]; omega)))
  have HB04 := Aside0.mk (show Below (w.alloc (.cells #[.int .i64 h] 3)).heap.size (w.alloc (.cells #[.int .i64 h] 3)) w4 from HB.out.trans (HB14.out.mono HB.out.size))
  have HSZ := Aside0.mk (show (w.alloc (.cells #[.int .i64 h] 3)).heap.size ≤ w3.heap.size from Nat.le_trans HB.out.size (by
    have h1 := HB2.out.size
    have h2 := HB3.out.size
    rw [World.size_alloc] at h1 h2
    omega))
  have HB14 := Aside0.mk (show Below w1.heap.size w1 w4 from (below_alloc (Below.refl w1.heap.size w1) (.cells #[.slice (some ⟨G1, 0, none⟩) l0.length l0.length, .slice (some ⟨G2, 0, none⟩) l0.length l0.length] 68 (0, 0))).trans ((HB2.out.trans (HB24.out.mono HB2.out.size)).mono (by rw [World.size_alloc]; omega)))
  have HB04 := Aside0.mk (show Below (w.alloc (.cells #[.int .i64 h] 3)).heap.size (w.alloc (.cells #[.int .i64 h] 3)) w4 from HB.out.trans (HB14.out.mono HB.out.size))
  have HSZ := Aside0.mk (show (w.alloc (.cells #[.int .i64 h] 3)).heap.size ≤ w3.heap.size from Nat.le_trans HB.out.size (by
    have h1 := HB2.out.size
    have h2 := HB3.out.size
    rw [World.size_alloc] at h1 h2
    omega))
  have HB14 := Aside0.mk (show Below w1.heap.size w1 w4 from (below_alloc (Below.refl w1.heap.size w1) (.cells #[.slice (some ⟨G1, 0, none⟩) l0.length l0.length, .slice (some ⟨G2, 0, none⟩) l0.length l0.length] 68 (0, 0))).trans ((HB2.out.trans (HB24.out.mono HB2.out.size)).mono (by rw [World.size_alloc]; omega)))
  have HB04 := Aside0.mk (show Below (w.alloc (.cells #[.int .i64 h] 3)).heap.size (w.alloc (.cells #[.int .i64 h] 3)) w4 from HB.out.trans (HB14.out.mono HB.out.size))
  have HSZ := Aside0.mk (show (w.alloc (.cells #[.int .i64 h] 3)).heap.size ≤ w3.heap.size from Nat.le_trans HB.out.size (by
    have h1 := HB2.out.size
    have h2 := HB3.out.size
    rw [World.size_alloc] at h1 h2
    omega))
  have HB14 := Aside0.mk (show Below w1.heap.size w1 w4 from (below_alloc (Below.refl w1.heap.size w1) (.cells #[.slice (some ⟨G1, 0, none⟩) l0.length l0.length, .slice (some ⟨G2, 0, none⟩) l0.length l0.length] 68 (0, 0))).trans ((HB2.out.trans (HB24.out.mono HB2.out.size)).mono (by rw [World.size_alloc]; omega)))
  have HB04 := Aside0.mk (show Below (w.alloc (.cells #[.int .i64 h] 3)).heap.size (w.alloc (.cells #[.int .i64 h] 3)) w4 from HB.out.trans (HB14.out.mono HB.out.size))
  have HSZ := Aside0.mk (show (w.alloc (.cells #[.int .i64 h] 3)).heap.size ≤ w3.heap.size from Nat.le_trans HB.out.size (by
    have h1 := HB2.out.size
    have h2 := HB3.out.size
    rw [World.size_alloc] at h1 h2
    omega))
  have HB14 := Aside0.mk (show Below w1.heap.size w1 w4 from (below_alloc (Below.refl w1.heap.size w1) (.cells #[.slice (some ⟨G1, 0, none⟩) l0.length l0.length, .slice (some ⟨G2, 0, none⟩) l0.length l0.length] 68 (0, 0))).trans ((HB2.out.trans (HB24.out.mono HB2.out.size)).mono (by rw [World.size_alloc]; omega)))
  have HB04 := Aside0.mk (show Below (w.alloc (.cells #[.int .i64 h] 3)).heap.size (w.alloc (.cells #[.int .i64 h] 3)) w4 from HB.out.trans (HB14.out.mono HB.out.size))
  have HSZ := Aside0.mk (show (w.alloc (.cells #[.int .i64 h] 3)).heap.size ≤ w3.heap.size from Nat.le_trans HB.out.size (by
    have h1 := HB2.out.size
    have h2 := HB3.out.size
    rw [World.size_alloc] at h1 h2
    omega))
  have HB14 := Aside0.mk (show Below w1.heap.size w1 w4 from (below_alloc (Below.refl w1.heap.size w1) (.cells #[.slice (some ⟨G1, 0, none⟩) l0.length l0.length, .slice (some ⟨G2, 0, none⟩) l0.length l0.length] 68 (0, 0))).trans ((HB2.out.trans (HB24.out.mono HB2.out.size)).mono (by rw [World.size_alloc]; omega)))
  have HB04 := Aside0.mk (show Below (w.alloc (.cells #[.int .i64 h] 3)).heap.size (w.alloc (.cells #[.int .i64 h] 3)) w4 from HB.out.trans (HB14.out.mono HB.out.size))
  have HSZ := Aside0.mk (show (w.alloc (.cells #[.int .i64 h] 3)).heap.size ≤ w3.heap.size from Nat.le_trans HB.out.size (by
    have h1 := HB2.out.size
    have h2 := HB3.out.size
    rw [World.size_alloc] at h1 h2
    omega))
  have HB14 := Aside0.mk (show Below w1.heap.size w1 w4 from (below_alloc (Below.refl w1.heap.size w1) (.cells #[.slice (some ⟨G1, 0, none⟩) l0.length l0.length, .slice (some ⟨G2, 0, none⟩) l0.length l0.length] 68 (0, 0))).trans ((HB2.out.trans (HB24.out.mono HB2.out.size)).mono (by rw [World.size_alloc]; omega)))
  have HB04 := Aside0.mk (show Below (w.alloc (.cells #[.int .i64 h] 3)).heap.size (w.alloc (.cells #[.int .i64 h] 3)) w4 from HB.out.trans (HB14.out.mono HB.out.size))
  have HSZ := Aside0.mk (show (w.alloc (.cells #[.int .i64 h] 3)).heap.size ≤ w3.heap.size from Nat.le_trans HB.out.size (by
    have h1 := HB2.out.size
    have h2 := HB3.out.size
    rw [World.size_alloc] at h1 h2
    omega))
  have HB14 := Aside0.mk (show Below w1.heap.size w1 w4 from (below_alloc (Below.refl w1.heap.size w1) (.cells #[.slice (some ⟨G1, 0, none⟩) l0.length l0.length, .slice (some ⟨G2, 0, none⟩) l0.length l0.length] 68 (0, 0))).trans ((HB2.out.trans (HB24.out.mono HB2.out.size)).mono (by rw [World.size_alloc]; omega)))
  have HB04 := Aside0.mk (show Below (w.alloc (.cells #[.int .i64 h] 3)).heap.size (w.alloc (.cells #[.int .i64 h] 3)) w4 from HB.out.trans (HB14.out.mono HB.out.size))
  have HSZ := Aside0.mk (show (w.alloc (.cells #[.int .i64 h] 3)).heap.size ≤ w3.heap.size from Nat.le_trans HB.out.size (by
    have h1 := HB2.out.size
    have h2 := HB3.out.size
    rw [World.size_alloc] at h1 h2
    omega))
  have HLP := Aside0.mk (show LP w w4 (w.alloc (.cells #[.int .i64 h] 3)).heap.size l0.length G1 G2 w.heap.size w1.heap.size w2.heap.size gr sR (w2.heap.size + 1) h rv (webA l0 l0.length) (.slice Av (backsTo l0 l0.length).length cv) (backsTo l0 l0.length) 0 from
    ⟨(HB04.out.block _ (blk_lt HH.out)).trans HH.out, (HB4.out.block _ (blk_lt HW3.out)).trans HW3.out, (HB34.out.block _ (blk_lt HZ2.out)).trans HZ2.out, (HB24.out.block _ (blk_lt HS.out)).trans HS.out, HO.out.below HB14.out, Kd.R_lower HV.out HSZ.out, (HB4.out.block _ (blk_lt HG3.out)).trans HG3.out, Nat.two_pow_pos _, by have := blk_lt HS.out; omega, by
      have h1 := HB0.out.size
      have h2 := HB.out.size
      have h3 := HB2.out.size
      rw [World.size_alloc] at h1 h2 h3
      omega, HB0.out.trans (HB04.out.mono HB0.out.size)⟩)
  clear HB14 HB04 HSZ HB24 HB34 HZ2 HW3 HB3 HB4 HG3 HV HB2 HS HGS HOA HWA HO HB c1 c2
  have hxl := backsTo_len l0 l0.length
  go_loopw [23] (fun i wr => ∃ (j s : Nat), j ≤ (backsTo l0 l0.length).length ∧ i = .int .i64 j ∧ Aside0 (LP w wr (w.alloc (.cells #[.int .i64 h] 3)).heap.size l0.length G1 G2 w.heap.size w1.heap.size w2.heap.size gr sR (w2.heap.size + 1) h rv (webA l0 l0.length) (.slice Av (backsTo l0 l0.length).length cv) (backsTo l0 l0.length) s) ∧
    Aside0 (∀ x, AG.has s x ↔ ∃ b, b ∈ (backsTo l0 l0.length).take j ∧ b.f1 = h ∧ ((x : Int) = h ∨ AG.Rch (bkL l0) (fun q => barL sR h q = false) b.f0.toNat x))) (fun i _ => (backsTo l0 l0.length).length - (intOf i).toNat)
  case atStart => exact ⟨0, 0, by omega, rfl, HLP, ⟨fun x => ⟨fun k => absurd k (AG.has_zero x), fun ⟨b, hb, _⟩ => by simp at hb⟩⟩⟩
  case round =>
    clear HLP
    obtain ⟨j, s, hj, rfl, HL, HP⟩ := hrel
    by_cases hjl : j < (backsTo l0 l0.length).length
    · obtain ⟨ad, e, hx0, hx1⟩ := at_T40 (Kd.R_reads' HL.out.hv).2.2 (j : Int) (by omega) (by omega)
      subst e
      rw [Int.toNat_natCast] at hx0 hx1
      obtain ⟨b, hb⟩ : ∃ b, b = rd_T40 (backsTo l0 l0.length) (j : Int) := ⟨_, rfl⟩
      rw [← hb] at hx0 hx1
      have HBB := Lib.hid hb
      clear hb
      have ch : ∀ o, (wr.alloc o).cell? ⟨w.heap.size, 0, none⟩ = some (.int .i64 h) := fun o => blk_cell (blk_alloc HL.out.hh o) 0
      by_cases hbh : b.f1 = h
      · have hmem : b ∈ backsTo l0 l0.length := by rw [HBB.out, rd40_get hjl]; exact List.getElem_mem hjl
        obtain ⟨p0, hp0, hf0, hf1, _⟩ := backs_mem hmem
        have hh := nextL_lt HOK.out hf1
        rw [hbh] at hh
        obtain ⟨hd, rfl⟩ : ∃ hd : Nat, h = hd := ⟨h.toNat, by omega⟩
        have hdn : hd < l0.length := by omega
        have hbh' : (b.f1 != (hd : Int)) = false := by simpa using hbh
        rw [hf0] at hx0
        rw [hbh] at hx1
        have HF0 := Aside0.mk hf0
        have HBH := Aside0.mk hbh
        have HN40 := Aside0.mk (blk_new wr (.cells #[.int .i64 p0, .int .i64 hd] 40 (0, 0)))
        have HLA := Aside0.mk (HL.out.step (below_alloc (Below.refl _ _) (.cells #[.int .i64 p0, .int .i64 hd] 40 (0, 0))))
        clear hf0 hf1 hmem hbh hbh' hh
        go_wp2_with (first | (go_at_call 50; refine (set_putO hl hdn HLA.out.lt HLA.out.hs).mono ?_; rintro e w5 ⟨rfl, hg5, ho5⟩; have HL5 := Aside0.mk (HLA.out.turn ho5 hg5 (AG.put_lt HLA.out.lt hdn)); have HN5 := Aside0.mk ((ho5.keep _ (blk_lt HN40.out) (blk_ne HN40.out HLA.out.hs (by decide))).trans HN40.out); have c3 : w5.cell? ⟨wr.heap.size, 0, none⟩ = some (.int .i64 p0) := blk_cell HN5.out 0; have c4 : w5.cell? ⟨w1.heap.size, 1, none⟩ = some (.slice (some ⟨G2, 0, none⟩) l0.length l0.length) := blk_cell HL5.out.hw 1; clear hg5 ho5) | (go_at_call 47; refine (spread_any _ l0.length G2 l0.length p0 rv _ 51 #[.pointer (some ⟨w.heap.size, 0, none⟩), .pointer (some ⟨w2.heap.size, 0, none⟩)] (barL sR hd) hl _ (rows_back HOK.out HL5.out.ho) enters51 (fun X p hX hp => bar_any hl hp HS2.out ((hX _ (blk_lt HL5.out.hh)).trans HL5.out.hh) ((hX _ (blk_lt HL5.out.hr)).trans HL5.out.hr) ((hX _ (blk_lt HL5.out.hg)).trans HL5.out.hg))).mono ?_; rintro e w6 ⟨gi, si, rfl, hgi, hsi, hsl, hb6, hS6⟩; have HL6 := Aside0.mk (HL5.out.step hb6); have HGI := Aside0.mk (show gi ≠ w2.heap.size + 1 from fun e => by have := blk_lt HL5.out.hs; omega); have HSI := Aside0.mk hsi; have HSL := Aside0.mk hsl; have HS6 := Aside0.mk hS6; clear hgi hsi hsl hb6 hS6))
        clear c3 c4 hx0 hx1 ch
        have hwn : 0 < words l0.length := by rw [words_one hdn]; omega
        have HWN := Aside0.mk (words_one hdn)
        go_loopw [42] (fun i w7 => ∃ (k : Nat), k ≤ words l0.length ∧ i = .int .i64 k ∧ Aside0 (LP w w7 (w.alloc (.cells #[.int .i64 (hd : Nat)] 3)).heap.size l0.length G1 G2 w.heap.size w1.heap.size w2.heap.size gr sR (w2.heap.size + 1) (hd : Nat) rv (webA l0 l0.length) (.slice (some ad) (backsTo l0 l0.length).length cv) (backsTo l0 l0.length) (if k = 0 then s ||| 2 ^ hd else (s ||| 2 ^ hd) ||| si)) ∧
          Aside0 (w7.heap[gi]? = some (.cells (setCells l0.length si) 77 (0, 0)))) (fun i _ => words l0.length - (intOf i).toNat)
        case atStart => exact ⟨0, by omega, rfl, HL6, HSI⟩
        case round =>
          obtain ⟨k, hk, rfl, HL7, HSI7⟩ := hrel
          by_cases hkl : k < words l0.length
          · obtain rfl : k = 0 := by have := HWN.out; omega
            have hg7 := HL7.out.hs
            rw [if_pos rfl, setCells_one hdn] at hg7
            have hgi7 := HSI7.out
            rw [setCells_one hdn] at hgi7
            have c5 : wr.cell? ⟨w2.heap.size + 1, 0, none⟩ = some (.int .u64 (s ||| 2 ^ hd : Nat)) := blk_cell hg7 0
            have c6 : wr.cell? ⟨gi, 0, none⟩ = some (.int .u64 si) := blk_cell hgi7 0
            have c7 : wr.frozen? ⟨w2.heap.size + 1, 0, none⟩ = false := blk_frozen hg7 0
            have hlt7 := HL7.out.lt
            rw [if_pos rfl] at hlt7
            have e4 := bits_or_u64_nat (s ||| 2 ^ hd) si (pow_le64 hl hlt7) (pow_le64 hl HSL.out)
            have HLT := Aside0.mk (show (s ||| 2 ^ hd) ||| si < 2 ^ l0.length from Nat.or_lt_two_pow hlt7 HSL.out)
            clear hg7 hgi7 hlt7
            go_wp2_with fail
            go_region
            all_goals
              go_wp2_with fail
              go_roundw
              case rel =>
                refine ⟨1, by omega, rfl, ⟨?_⟩, ⟨?_⟩⟩
                · rw [if_neg (by omega)]
                  first
                    | exact HL7.out.turn ((Only.refl _ _).put _) (setCells_set hdn HL7.out.hs 0) HLT.out
                    | exact HL7.out.turn (((Only.refl _ _).put _).drewN 1) (setCells_set hdn HL7.out.hs 1) HLT.out
                    | exact HL7.out.turn ((((Only.refl _ _).drewN 1).put _).drewN 1) (setCells_set hdn (blk_drewN HL7.out.hs 1) 1) HLT.out
                    | exact HL7.out.turn (((Only.refl _ _).drewN 1).put _) (setCells_set hdn (blk_drewN HL7.out.hs 1) 0) HLT.out
                · first
                    | exact blk_far HSI7.out (p := ⟨w2.heap.size + 1, 0, none⟩) HGI.out _
                    | exact blk_drewN (blk_far HSI7.out (p := ⟨w2.heap.size + 1, 0, none⟩) HGI.out _) 1
                    | exact blk_drewN (blk_far (blk_drewN HSI7.out 1) (p := ⟨w2.heap.size + 1, 0, none⟩) HGI.out _) 1
                    | exact blk_far (blk_drewN HSI7.out 1) (p := ⟨w2.heap.size + 1, 0, none⟩) HGI.out _
              case measure => simp [intOf]; omega
          · obtain rfl : k = words l0.length := by omega
            go_wp2_with fail
            go_roundw
            case rel =>
              have h7 := HL7.out
              rw [if_neg (by omega)] at h7
              refine ⟨j + 1, _, by omega, by go_num, ⟨h7⟩, ⟨fun x => ?_⟩⟩
              rw [take_ex hjl, ← HBB.out, AG.has_or, AG.has_put, HP.out x, HS6.out x, HF0.out, Int.toNat_natCast]
              constructor
              · rintro ((h | rfl) | h)
                · exact .inl h
                · exact .inr ⟨HBH.out, .inl rfl⟩
                · exact .inr ⟨HBH.out, .inr h.2⟩
              · rintro (h | ⟨_, h | h⟩)
                · exact .inl (.inl h)
                · exact .inl (.inr (by omega))
                · exact .inr ⟨hp0, h⟩
            case measure => simp [intOf]; omega
      · have hbh' : (b.f1 != h) = true := by simpa using hbh
        go_wp2_with fail
        go_roundw
        case rel =>
          refine ⟨j + 1, s, by omega, by go_num, ⟨HL.out.step (below_alloc (Below.refl _ _) _)⟩, ⟨fun x => (HP.out x).trans ?_⟩⟩
          rw [take_ex hjl, ← HBB.out]
          exact ⟨.inl, fun k => k.elim id fun k => absurd k.1 hbh⟩
        case measure => simp [intOf]; omega
    · obtain rfl : j = (backsTo l0 l0.length).length := by omega
      go_wp2_with (first | (go_at_call 53; refine (set_list hl HL.out.lt HL.out.hs).mono ?_; rintro e w5 ⟨v0, rfl, hv, hb⟩; have HV := Aside0.mk hv; have HB := Aside0.mk hb; clear hv hb))
      go_ret
      exact ⟨_, s, rfl, Kd.R_lower HV.out HL.out.below.size, HL.out.below.trans (HB.out.mono HL.out.below.size), sR, fun q => (HX.out q).trans ⟨fun k => ⟨k.1, k.2.weaken fun _ _ => trivial⟩, fun k => ⟨k.1, k.2.weaken fun _ _ => by first | trivial | rfl⟩⟩, fun x => by have := HP.out x; rwa [List.take_length] at this⟩
end Go.Proofs.Ytbcmckfceeakhaa.Gv
end

section
set_option linter.unusedVariables false
set_option linter.unusedSimpArgs false
namespace Go.Proofs.Ytbcmckfceeakhaa.Gv
open Go.RowKit Go.Proofs.YtbcmckfceeakhaaW.PrintWords Go.Proofs.Ytbcmckfceeakhaa.GL

def loopP (l : List Int) (h : Int) (x : Nat) : Prop := ∃ b, b ∈ backsTo l l.length ∧ b.f1 = h ∧ AG.InLoop (nxL l) h.toNat b.f0.toNat x
open Classical in
noncomputable def loopL (l : List Int) (h : Int) : List Int := ((List.range l.length).filter fun x => decide (loopP l h x)).map fun x : Nat => (x : Int)
theorem loop_has {l : List Int} (hok : okW l) {h : Int} {sR s : Nat} (hR : ∀ q, AG.has sR q ↔ 0 < l.length ∧ AG.Rch (nxL l) (fun _ => True) 0 q)
    (hs : ∀ x, AG.has s x ↔ ∃ b, b ∈ backsTo l l.length ∧ b.f1 = h ∧ ((x : Int) = h ∨ AG.Rch (bkL l) (fun q => barL sR h q = false) b.f0.toNat x)) {x : Nat} (hx : x < l.length) : AG.has s x ↔ loopP l h x := by
  rw [hs x]
  unfold loopP
  refine exists_congr fun b => and_congr_right fun hb => and_congr_right fun hh => ?_
  obtain ⟨p, hp, hf0, hf1, ha⟩ := backs_mem hb
  have hq := nextL_lt hok hf1
  rw [hh] at hq ha
  rw [hf0, Int.toNat_natCast]
  have hbar : ∀ q, barL sR h q = false ↔ (q ≠ h.toNat ∧ AG.Reached (nxL l) q) := by
    intro q
    unfold barL
    rw [Bool.or_eq_false_iff, decide_eq_false_iff_not, Bool.not_eq_false', show sR.testBit q = true ↔ AG.has sR q from Iff.rfl, hR q]
    constructor
    · rintro ⟨h1, h2⟩; exact ⟨by omega, h2.2⟩
    · rintro ⟨h1, h2⟩; exact ⟨by omega, by omega, h2⟩
  have := AG.loop_iff (nx := nxL l) (bk := bkL l) (n := l.length) (h := h.toNat) (b := p) (p := x) (fun a c _ hc => (bk_iff hok).trans ⟨fun k => k.2, fun k => ⟨hc, k⟩⟩) (fun a c _ hc => ((bk_iff hok).1 hc).1) (fun a c _ hc => nx_lt hok hc) hp hx ha.1 ha.2
  rw [← this]
  refine or_congr ⟨fun k => by omega, fun k => by omega⟩ ⟨fun k => k.weaken fun q hq => (hbar q).1 hq, fun k => k.weaken fun q hq => (hbar q).2 hq⟩
open Classical in
noncomputable def graph_Loop.f (l0 : List Int) (a1 : Int) : Option (List Int) := if okW l0 then some (loopL l0 a1) else none
open Classical in
theorem graph_Loop.calls (A0 : Option Addr) (c0 : Nat) (l0 : List Int) (a1 : Int) (r : List Int) (w : World) (hr0 : Kd.C (Kd.int .u32) w A0 l0.length l0) (_hc0 : l0.length ≤ c0) (h : graph_Loop.f l0 a1 = some r) :
    Calls Try.prog 16 #[.slice A0 l0.length c0, .int .i64 a1] w fun e w' => ∃ v0_ : Value, e = .returned (v0_) ∧ Kd.R (Kd.int .i64) 3 w' w.heap.size (fun _ => True) v0_ r ∧ Below w.heap.size w w' := by
  unfold graph_Loop.f at h
  by_cases hok : okW l0
  · rw [if_pos hok] at h
    cases h
    refine (loop_any A0 c0 l0 a1 w hr0 hok).mono ?_
    rintro e w' ⟨v0, s, rfl, hv, hb, sR, hR, hs⟩
    refine ⟨_, rfl, ?_, hb⟩
    have : listTo s l0.length = loopL l0 a1 := by
      unfold listTo loopL
      congr 1
      apply List.filter_congr
      intro x hx
      exact Bool.eq_iff_iff.2 ((loop_has hok hR hs (List.mem_range.1 hx)).trans decide_eq_true_iff.symm)
    rw [← this]
    exact hv
  · rw [if_neg hok] at h; cases h
end Go.Proofs.Ytbcmckfceeakhaa.Gv
end

section
set_option linter.unusedVariables false
set_option linter.unusedSimpArgs false

end
