import Derived.Test.YtbcmckfceeakhaaGBx1
import Derived.Outline
import Derived.Laws.EntriesVeiled
import Derived.Lib.Hide
import Derived.Test.YtbcmckfceeakhaaShelf
import Derived.Sort.OwnSortedInts
import Derived.Lib.RowBridge
section
set_option linter.unusedVariables false
set_option linter.unusedSimpArgs false
namespace Go.Proofs.Ytbcmckfceeakhaa.Gv
open Go.RowKit Go.Proofs.YtbcmckfceeakhaaW.PrintWords Go.Proofs.Ytbcmckfceeakhaa.GB

/-- What lies in the table of fields. -/
def fieldCells : Array Value := #[.func (.func 88) #[] #[], .int .u64 21, .int .u64 5, .func (.func 89) #[] #[], .int .u64 16, .int .u64 5, .func (.func 90) #[] #[], .int .u64 11, .int .u64 5, .func (.func 91) #[] #[], .int .u64 0, .int .u64 16]
theorem fields_any (s : ByteArray) (hs : s.size = 4) (w : World) :
    Calls Try.prog 72 #[.string s] w fun e w' => e = .returned (.slice (some ⟨w.heap.size, 0, none⟩) 4 4) ∧ w' = w.alloc (.cells fieldCells 100) := by
  have hs2 : (s.size : Int) = 4 := by omega
  go_enter Try.func72, Try.ntmps72
  go_wp2
  go_ret
  exact ⟨rfl, rfl⟩
theorem fieldD_any (b : Nat) (w : World) : Calls Try.prog 88 #[.pointer (some ⟨b, 0, none⟩)] w fun e w' => e = .returned (.pointer (some ⟨b, 1, none⟩)) ∧ w = w' := by
  go_enter Try.func88, Try.ntmps88
  go_wp2
  go_ret
  exact ⟨rfl, rfl⟩
theorem fieldA_any (b : Nat) (w : World) : Calls Try.prog 89 #[.pointer (some ⟨b, 0, none⟩)] w fun e w' => e = .returned (.pointer (some ⟨b, 2, none⟩)) ∧ w = w' := by
  go_enter Try.func89, Try.ntmps89
  go_wp2
  go_ret
  exact ⟨rfl, rfl⟩
theorem fieldB_any (b : Nat) (w : World) : Calls Try.prog 90 #[.pointer (some ⟨b, 0, none⟩)] w fun e w' => e = .returned (.pointer (some ⟨b, 3, none⟩)) ∧ w = w' := by
  go_enter Try.func90, Try.ntmps90
  go_wp2
  go_ret
  exact ⟨rfl, rfl⟩
theorem fieldN_any (b : Nat) (w : World) : Calls Try.prog 91 #[.pointer (some ⟨b, 0, none⟩)] w fun e w' => e = .returned (.pointer (some ⟨b, 4, none⟩)) ∧ w = w' := by
  go_enter Try.func91, Try.ntmps91
  go_wp2
  go_ret
  exact ⟨rfl, rfl⟩

/-- A letter's least and greatest number, and its error. -/
def bLo (c : Int) : Int := if c = 115 then -32768 else 0
def bHi (c : Int) : Int := if c = 45 then 0 else if c = 115 then 32767 else if c = 117 then 65535 else 31
def bE (c : Int) : Int := if c = 45 then 3 else 6
theorem bounds_any (c : Int) (w : World) : Calls Try.prog 87 #[.int .u8 c] w fun e w' => e = .returned (.tuple #[.int .i64 (bLo c), .int .i64 (bHi c), .int .i64 (bE c)]) ∧ Drawn0 w w' := by
  refine (code_bounds.calls c (bLo c) (bHi c) (bE c) w ?_)
  unfold code_bounds.f bLo bHi bE
  by_cases h1 : c = 45
  · subst h1; rfl
  · by_cases h2 : c = 115
    · subst h2; rfl
    · by_cases h3 : c = 117
      · subst h3; rfl
      · simp [h1, h2, h3]

/-- A field's error. -/
def chkAt (c n : Int) : Int := if n < bLo c ∨ bHi c < n then bE c else 0
def shp (op : Int) : ByteArray :=
  if op < 1 ∨ 43 < op then ⟨#[]⟩ else if op ≤ 23 then ⟨#[100, 97, 98, 45]⟩ else if op ≤ 30 then ⟨#[100, 97, 45, 45]⟩ else if op = 31 then ⟨#[100, 97, 45, 115]⟩
  else if op = 33 ∨ op = 40 then ⟨#[100, 45, 45, 117]⟩ else if op < 39 then ⟨#[100, 97, 45, 117]⟩ else if op = 39 then ⟨#[45, 45, 45, 117]⟩ else if op = 41 then ⟨#[45, 97, 45, 45]⟩ else ⟨#[45, 45, 45, 45]⟩
theorem shp_f (op : Int) : ops_Shape.f 1 op = some (shp op) := by
  unfold ops_Shape.f ops_is.f shp
  simp only [ops_Shape.j0]
  by_cases h1 : op ≥ 1
  · by_cases h2 : op ≤ 43
    · rw [if_pos h1, if_neg (by omega : ¬ (op < 1 ∨ 43 < op))]
      simp only [h2, decide_true, Option.bind_some, if_true]
      by_cases h3 : op ≤ 23
      · rw [if_pos h3, if_pos h3]
      · rw [if_neg h3, if_neg h3]
        by_cases h4 : op ≤ 30
        · rw [if_pos h4, if_pos h4]
        · rw [if_neg h4, if_neg h4]
          by_cases h5 : op = 31
          · rw [if_pos h5, if_pos h5]
          · rw [if_neg h5, if_neg h5]
            by_cases h6 : op = 33
            · subst h6; rfl
            · by_cases h7 : op = 40
              · subst h7; rfl
              · rw [if_neg h6, if_neg (by simp [h7]), if_neg (by omega : ¬ (op = 33 ∨ op = 40))]
                repeat' split
                all_goals rfl
    · rw [if_pos h1, if_pos (by omega : op < 1 ∨ 43 < op)]
      simp [h2]
  · rw [if_neg h1, if_pos (by omega : op < 1 ∨ 43 < op)]
    simp
theorem shp_any (op : Int) (w : World) : Calls Try.prog 73 #[.int .i64 op] w fun e w' => e = .returned (.string (shp op)) ∧ Drawn0 w w' := ops_Shape.calls 1 op (shp op) w (shp_f op)
theorem shp_size (op : Int) (h1 : 1 ≤ op) (h2 : op ≤ 43) : (shp op).size = 4 := by
  unfold shp
  rw [if_neg (by omega)]
  repeat' split
  all_goals rfl
theorem shp_full {op : Int} (h1 : 1 ≤ op) (h2 : op ≤ 43) : (shp op).toList.isEmpty = false := by
  have hs := shp_size op h1 h2
  rw [ByteArray.toList_eq]
  cases hl : (shp op).data.toList with
  | nil =>
      have : (shp op).data.toList.length = 4 := by rw [← hs, Array.length_toList]; rfl
      rw [hl] at this; cases this
  | cons => rfl
theorem shp_none (op : Int) (h : op < 1 ∨ 43 < op) : shp op = ⟨#[]⟩ := by unfold shp; rw [if_pos h]
/-- The letter of a field. -/
def ltr (op : Int) (k : Nat) : Int := bt (shp op) k
/-- The whole instruction's error. -/
def chk (op d a b n : Int) : Int :=
  if op < 1 ∨ 43 < op then 2 else if chkAt (ltr op 0) d ≠ 0 then chkAt (ltr op 0) d else if chkAt (ltr op 1) a ≠ 0 then chkAt (ltr op 1) a else if chkAt (ltr op 2) b ≠ 0 then chkAt (ltr op 2) b else chkAt (ltr op 3) n
/-- The first fields are in order. -/
def chkTo (op d a b n : Int) : Nat → Prop
  | 0 => True
  | 1 => chkAt (ltr op 0) d = 0
  | 2 => chkAt (ltr op 0) d = 0 ∧ chkAt (ltr op 1) a = 0
  | 3 => chkAt (ltr op 0) d = 0 ∧ chkAt (ltr op 1) a = 0 ∧ chkAt (ltr op 2) b = 0
  | _ => chkAt (ltr op 0) d = 0 ∧ chkAt (ltr op 1) a = 0 ∧ chkAt (ltr op 2) b = 0 ∧ chkAt (ltr op 3) n = 0
theorem chkAt_cases (c n : Int) : (chkAt c n = 0 ∧ bLo c ≤ n ∧ n ≤ bHi c) ∨ (chkAt c n = bE c ∧ bE c ≠ 0 ∧ (n < bLo c ∨ bHi c < n)) := by
  unfold chkAt
  by_cases h : n < bLo c ∨ bHi c < n
  · rw [if_pos h]; exact .inr ⟨rfl, by unfold bE; split <;> decide, h⟩
  · rw [if_neg h]; exact .inl ⟨rfl, by omega⟩

def fld (d a b n : Int) : Nat → Int
  | 0 => d
  | 1 => a
  | 2 => b
  | _ => n
theorem chkTo_next {op d a b n : Int} {k : Nat} (hk : k < 4) (h : chkTo op d a b n k) (hb : bLo (ltr op k) ≤ fld d a b n k ∧ fld d a b n k ≤ bHi (ltr op k)) : chkTo op d a b n (k + 1) := by
  have h3 : chkAt (ltr op k) (fld d a b n k) = 0 := by unfold chkAt; rw [if_neg (by omega)]
  match k, hk with
  | 0, _ => exact h3
  | 1, _ => exact ⟨h, h3⟩
  | 2, _ => exact ⟨h.1, h.2, h3⟩
  | 3, _ => exact ⟨h.1, h.2.1, h.2.2, h3⟩
theorem bE_ne (c : Int) : bE c ≠ 0 := by unfold bE; split <;> decide
theorem chk_ret {op d a b n : Int} {k : Nat} (hk : k < 4) (ho1 : 1 ≤ op) (ho2 : op ≤ 43) (h : chkTo op d a b n k) (hb : fld d a b n k < bLo (ltr op k) ∨ bHi (ltr op k) < fld d a b n k) : chk op d a b n = bE (ltr op k) := by
  have h3 : chkAt (ltr op k) (fld d a b n k) = bE (ltr op k) := by unfold chkAt; rw [if_pos hb]
  have hne := bE_ne (ltr op k)
  unfold chk
  rw [if_neg (by omega)]
  match k, hk with
  | 0, _ => simp only [fld] at h3; rw [h3, if_pos hne]
  | 1, _ => simp only [fld] at h3; simp only [chkTo] at h; rw [h, if_neg (by simp), h3, if_pos hne]
  | 2, _ => simp only [fld] at h3; simp only [chkTo] at h; rw [h.1, if_neg (by simp), h.2, if_neg (by simp), h3, if_pos hne]
  | 3, _ => simp only [fld] at h3; simp only [chkTo] at h; rw [h.1, if_neg (by simp), h.2.1, if_neg (by simp), h.2.2, if_neg (by simp), h3]
theorem chk_ok {op d a b n : Int} (ho1 : 1 ≤ op) (ho2 : op ≤ 43) (h : chkTo op d a b n 4) : chk op d a b n = 0 := by
  simp only [chkTo] at h
  unfold chk
  rw [if_neg (by omega), h.1, if_neg (by simp), h.2.1, if_neg (by simp), h.2.2.1, if_neg (by simp), h.2.2.2]
theorem ret_int {k : IntKind} {a b : Int} (h : a = b) : Ending.returned (.int k a) = .returned (.int k b) := by rw [h]
set_option maxHeartbeats 1000000 in
theorem chk_none (op d a b n : Int) (h : op < 1 ∨ 43 < op) (w : World) :
    Calls Try.prog 71 #[.agg #[.int .i64 op, .int .i64 d, .int .i64 a, .int .i64 b, .int .i64 n]] w fun e w' => e = .returned (.int .i64 2) ∧ Below w.heap.size w w' := by
  have he : ((shp op).toList = []) := by rw [shp_none op h, ByteArray.toList_eq]
  go_enter Try.func71, Try.ntmps71
  go_wp2_with (go_at_call 73; refine (shp_any _ _).mono ?_; rintro e w' ⟨rfl, hd⟩; obtain ⟨q, rfl⟩ := hd.out)
  go_ret
  exact ⟨rfl, by repeat (first | exact Below.refl _ _ | apply below_alloc | apply pw_below_drewN)⟩
set_option maxHeartbeats 4000000 in
theorem chk_some (op d a b n : Int) (h1 : 1 ≤ op) (h2 : op ≤ 43) (w : World) :
    Calls Try.prog 71 #[.agg #[.int .i64 op, .int .i64 d, .int .i64 a, .int .i64 b, .int .i64 n]] w fun e w' => e = .returned (.int .i64 (chk op d a b n)) ∧ Below w.heap.size w w' := by
  have hs := shp_size op h1 h2
  have he : (shp op).toList.isEmpty = false := shp_full h1 h2
  have hs3 : 3 < (shp op).size := by omega
  have hb0 : ∀ h : 0 < (shp op).size, (((shp op)[0]'h).toNat : Int) = ltr op 0 := fun h => bt_at (shp op) 0 h
  have hb1 : ∀ h : 1 < (shp op).size, (((shp op)[1]'h).toNat : Int) = ltr op 1 := fun h => bt_at (shp op) 1 h
  have hb2 : ∀ h : 2 < (shp op).size, (((shp op)[2]'h).toNat : Int) = ltr op 2 := fun h => bt_at (shp op) 2 h
  have hb3 : ∀ h : 3 < (shp op).size, (((shp op)[3]'h).toNat : Int) = ltr op 3 := fun h => bt_at (shp op) 3 h
  have HS := Lib.hid hs
  clear hs
  go_enter Try.func71, Try.ntmps71
  go_wp2_with (first | (go_at_call 73; refine (shp_any _ _).mono ?_; rintro e w' ⟨rfl, hd⟩; obtain ⟨q, rfl⟩ := hd.out) | (go_at_call 72; refine (fields_any _ HS.out _).mono ?_; rintro e w' ⟨rfl, rfl⟩))
  go_loopw [18] (fun i wr => ∃ k : Nat, k ≤ 4 ∧ i = .int .i64 k ∧ Aside0 (chkTo op d a b n k) ∧ Aside0 (wr.heap[w.heap.size]? = some (.cells #[.int .i64 op, .int .i64 d, .int .i64 a, .int .i64 b, .int .i64 n] 52 (0, 0))) ∧
      Aside0 (wr.heap[w.heap.size + 1]? = some (.cells fieldCells 100 (0, 0))) ∧ Aside0 (Below w.heap.size w wr)) (fun i _ => 4 - (intOf i).toNat)
  case atStart =>
    refine ⟨0, by omega, rfl, ⟨trivial⟩, ⟨blk_alloc (blk_drewN (blk_new _ _) _) _⟩, ⟨?_⟩, ⟨by repeat (first | exact Below.refl _ _ | apply below_alloc | apply pw_below_drewN)⟩⟩
    have := blk_new ((w.alloc (.cells #[.int .i64 op, .int .i64 d, .int .i64 a, .int .i64 b, .int .i64 n] 52)).drewN q) (.cells fieldCells 100)
    simpa using this
  case round =>
    obtain ⟨k, hk, rfl, HC, HI, HF, HB⟩ := hrel
    have hI1 : ∀ o, (wr.alloc o).cell? ⟨w.heap.size, 1, none⟩ = some (.int .i64 d) := fun o => blk_cell (blk_alloc HI.out o) 1
    have hI2 : ∀ o, (wr.alloc o).cell? ⟨w.heap.size, 2, none⟩ = some (.int .i64 a) := fun o => blk_cell (blk_alloc HI.out o) 2
    have hI3 : ∀ o, (wr.alloc o).cell? ⟨w.heap.size, 3, none⟩ = some (.int .i64 b) := fun o => blk_cell (blk_alloc HI.out o) 3
    have hI4 : ∀ o, (wr.alloc o).cell? ⟨w.heap.size, 4, none⟩ = some (.int .i64 n) := fun o => blk_cell (blk_alloc HI.out o) 4
    match k, hk with
    | 0, _ =>
      have hF0 : wr.cell? ⟨w.heap.size + 1, 0, none⟩ = some (.func (.func 88) #[] #[]) := blk_cell HF.out 0
      have hF1 : wr.cell? ⟨w.heap.size + 1, 1, none⟩ = some (.int .u64 21) := blk_cell HF.out 1
      have hF2 : wr.cell? ⟨w.heap.size + 1, 2, none⟩ = some (.int .u64 5) := blk_cell HF.out 2
      go_wp2_with (first | (go_at_call 87; refine (bounds_any _ _).mono ?_; rintro e w' ⟨rfl, hd⟩; obtain ⟨q1, rfl⟩ := hd.out) | (go_at_call 88; refine (fieldD_any _ _).mono ?_; rintro e w' ⟨rfl, rfl⟩))
      · go_ret
        exact ⟨ret_int (chk_ret (k := 0) (by decide) h1 h2 HC.out (by assumption)).symm, below_then HB.out HB.out.size (by repeat (first | exact Below.refl _ _ | apply below_alloc | apply pw_below_drewN))⟩
      · go_roundw
        case rel => exact ⟨1, by omega, rfl, ⟨chkTo_next (k := 0) (by decide) HC.out (by assumption)⟩, ⟨by repeat (first | exact HI.out | apply blk_alloc | apply blk_drewN)⟩, ⟨by repeat (first | exact HF.out | apply blk_alloc | apply blk_drewN)⟩, ⟨by repeat (first | exact HB.out | apply below_alloc | apply pw_below_drewN)⟩⟩
        case measure => simp [intOf]
      · go_ret
        exact ⟨ret_int (chk_ret (k := 0) (by decide) h1 h2 HC.out (.inl (by assumption))).symm, below_then HB.out HB.out.size (by repeat (first | exact Below.refl _ _ | apply below_alloc | apply pw_below_drewN))⟩
    | 1, _ =>
      have hF0 : wr.cell? ⟨w.heap.size + 1, 3, none⟩ = some (.func (.func 89) #[] #[]) := blk_cell HF.out 3
      have hF1 : wr.cell? ⟨w.heap.size + 1, 4, none⟩ = some (.int .u64 16) := blk_cell HF.out 4
      have hF2 : wr.cell? ⟨w.heap.size + 1, 5, none⟩ = some (.int .u64 5) := blk_cell HF.out 5
      go_wp2_with (first | (go_at_call 87; refine (bounds_any _ _).mono ?_; rintro e w' ⟨rfl, hd⟩; obtain ⟨q1, rfl⟩ := hd.out) | (go_at_call 89; refine (fieldA_any _ _).mono ?_; rintro e w' ⟨rfl, rfl⟩))
      · go_ret
        exact ⟨ret_int (chk_ret (k := 1) (by decide) h1 h2 HC.out (by assumption)).symm, below_then HB.out HB.out.size (by repeat (first | exact Below.refl _ _ | apply below_alloc | apply pw_below_drewN))⟩
      · go_roundw
        case rel => exact ⟨2, by omega, rfl, ⟨chkTo_next (k := 1) (by decide) HC.out (by assumption)⟩, ⟨by repeat (first | exact HI.out | apply blk_alloc | apply blk_drewN)⟩, ⟨by repeat (first | exact HF.out | apply blk_alloc | apply blk_drewN)⟩, ⟨by repeat (first | exact HB.out | apply below_alloc | apply pw_below_drewN)⟩⟩
        case measure => simp [intOf]
      · go_ret
        exact ⟨ret_int (chk_ret (k := 1) (by decide) h1 h2 HC.out (.inl (by assumption))).symm, below_then HB.out HB.out.size (by repeat (first | exact Below.refl _ _ | apply below_alloc | apply pw_below_drewN))⟩
    | 2, _ =>
      have hF0 : wr.cell? ⟨w.heap.size + 1, 6, none⟩ = some (.func (.func 90) #[] #[]) := blk_cell HF.out 6
      have hF1 : wr.cell? ⟨w.heap.size + 1, 7, none⟩ = some (.int .u64 11) := blk_cell HF.out 7
      have hF2 : wr.cell? ⟨w.heap.size + 1, 8, none⟩ = some (.int .u64 5) := blk_cell HF.out 8
      go_wp2_with (first | (go_at_call 87; refine (bounds_any _ _).mono ?_; rintro e w' ⟨rfl, hd⟩; obtain ⟨q1, rfl⟩ := hd.out) | (go_at_call 90; refine (fieldB_any _ _).mono ?_; rintro e w' ⟨rfl, rfl⟩))
      · go_ret
        exact ⟨ret_int (chk_ret (k := 2) (by decide) h1 h2 HC.out (by assumption)).symm, below_then HB.out HB.out.size (by repeat (first | exact Below.refl _ _ | apply below_alloc | apply pw_below_drewN))⟩
      · go_roundw
        case rel => exact ⟨3, by omega, rfl, ⟨chkTo_next (k := 2) (by decide) HC.out (by assumption)⟩, ⟨by repeat (first | exact HI.out | apply blk_alloc | apply blk_drewN)⟩, ⟨by repeat (first | exact HF.out | apply blk_alloc | apply blk_drewN)⟩, ⟨by repeat (first | exact HB.out | apply below_alloc | apply pw_below_drewN)⟩⟩
        case measure => simp [intOf]
      · go_ret
        exact ⟨ret_int (chk_ret (k := 2) (by decide) h1 h2 HC.out (.inl (by assumption))).symm, below_then HB.out HB.out.size (by repeat (first | exact Below.refl _ _ | apply below_alloc | apply pw_below_drewN))⟩
    | 3, _ =>
      have hF0 : wr.cell? ⟨w.heap.size + 1, 9, none⟩ = some (.func (.func 91) #[] #[]) := blk_cell HF.out 9
      have hF1 : wr.cell? ⟨w.heap.size + 1, 10, none⟩ = some (.int .u64 0) := blk_cell HF.out 10
      have hF2 : wr.cell? ⟨w.heap.size + 1, 11, none⟩ = some (.int .u64 16) := blk_cell HF.out 11
      go_wp2_with (first | (go_at_call 87; refine (bounds_any _ _).mono ?_; rintro e w' ⟨rfl, hd⟩; obtain ⟨q1, rfl⟩ := hd.out) | (go_at_call 91; refine (fieldN_any _ _).mono ?_; rintro e w' ⟨rfl, rfl⟩))
      · go_ret
        exact ⟨ret_int (chk_ret (k := 3) (by decide) h1 h2 HC.out (by assumption)).symm, below_then HB.out HB.out.size (by repeat (first | exact Below.refl _ _ | apply below_alloc | apply pw_below_drewN))⟩
      · go_roundw
        case rel => exact ⟨4, by omega, rfl, ⟨chkTo_next (k := 3) (by decide) HC.out (by assumption)⟩, ⟨by repeat (first | exact HI.out | apply blk_alloc | apply blk_drewN)⟩, ⟨by repeat (first | exact HF.out | apply blk_alloc | apply blk_drewN)⟩, ⟨by repeat (first | exact HB.out | apply below_alloc | apply pw_below_drewN)⟩⟩
        case measure => simp [intOf]
      · go_ret
        exact ⟨ret_int (chk_ret (k := 3) (by decide) h1 h2 HC.out (.inl (by assumption))).symm, below_then HB.out HB.out.size (by repeat (first | exact Below.refl _ _ | apply below_alloc | apply pw_below_drewN))⟩
    | 4, _ =>
      go_wp2
      go_ret
      exact ⟨ret_int (chk_ok h1 h2 HC.out).symm, HB.out⟩
theorem chk_any (op d a b n : Int) (w : World) :
    Calls Try.prog 71 #[.agg #[.int .i64 op, .int .i64 d, .int .i64 a, .int .i64 b, .int .i64 n]] w fun e w' => e = .returned (.int .i64 (chk op d a b n)) ∧ Below w.heap.size w w' := by
  by_cases h : op < 1 ∨ 43 < op
  · have : chk op d a b n = 2 := by unfold chk; rw [if_pos h]
    rw [this]
    exact chk_none op d a b n h w
  · exact chk_some op d a b n (by omega) (by omega) w
end Go.Proofs.Ytbcmckfceeakhaa.Gv
end

section
set_option linter.unusedVariables false
set_option linter.unusedSimpArgs false
namespace Go.Proofs.Ytbcmckfceeakhaa.Gv
open Go.RowKit Go.Proofs.YtbcmckfceeakhaaW.PrintWords Go.Proofs.Ytbcmckfceeakhaa.GB

/-- The word, the first fields being put in. -/
def encPart (d a b n : Int) : Nat → Int
  | 0 => bits BinOp.and IntKind.u32 (d % 4294967296) 31 * 2097152 % 4294967296
  | 1 => bits BinOp.and IntKind.u32 (a % 4294967296) 31 * 65536 % 4294967296
  | 2 => bits BinOp.and IntKind.u32 (b % 4294967296) 31 * 2048 % 4294967296
  | _ => bits BinOp.and IntKind.u32 (n % 4294967296) 65535 % 4294967296
def encTo (op d a b n : Int) : Nat → Int
  | 0 => op * 67108864
  | k + 1 => bits BinOp.or IntKind.u32 (encTo op d a b n k) (encPart d a b n k)
set_option maxHeartbeats 1000000 in
theorem enc_no (op d a b n : Int) (h : ¬ chk op d a b n = 0) (w : World) :
    Calls Try.prog 33 #[.agg #[.int .i64 op, .int .i64 d, .int .i64 a, .int .i64 b, .int .i64 n]] w fun e w' => e = .returned (.tuple #[.int .u32 0, .int .i64 (chk op d a b n)]) ∧ Below w.heap.size w w' := by
  go_enter Try.func33, Try.ntmps33
  go_wp2_with (first | (go_at_call 71; refine (chk_any _ _ _ _ _ _).mono ?_; rintro e w' ⟨rfl, hb⟩))
  refine bodyPost_ret (v := .tuple #[.int .u32 0, .int .i64 (chk op d a b n)]) (by simp [results, Try.results33, go_sem]) rfl ⟨rfl, below_then (below_alloc (Below.refl _ _) _) (by simp) (by simpa using hb)⟩
set_option maxHeartbeats 4000000 in
theorem enc_yes (op d a b n : Int) (h1 : 1 ≤ op) (h2 : op ≤ 43) (h : chk op d a b n = 0) (w : World) :
    Calls Try.prog 33 #[.agg #[.int .i64 op, .int .i64 d, .int .i64 a, .int .i64 b, .int .i64 n]] w fun e w' => e = .returned (.tuple #[.int .u32 (encTo op d a b n 4), .int .i64 0]) ∧ Below w.heap.size w w' := by
  have hs := shp_size op h1 h2
  have hs3 : 3 < (shp op).size := by omega
  have HS := Lib.hid hs
  clear hs
  have HC := Lib.hid h
  clear h
  go_enter Try.func33, Try.ntmps33
  go_wp2_with (first | (go_at_call 71; refine (chk_any _ _ _ _ _ _).mono ?_; rintro e w' ⟨rfl, hb⟩; rw [HC.out]; have hbc : ∀ j, j < 5 → w'.cell? ⟨w.heap.size, j, none⟩ = (w.alloc (.cells #[.int .i64 op, .int .i64 d, .int .i64 a, .int .i64 b, .int .i64 n] 52)).cell? ⟨w.heap.size, j, none⟩ := fun j _ => hb.cell (p := ⟨w.heap.size, j, none⟩) (by simp)) | (go_at_call 73; refine (shp_any _ _).mono ?_; rintro e w' ⟨rfl, hd⟩; obtain ⟨q, rfl⟩ := hd.out) | (go_at_call 72; refine (fields_any _ HS.out _).mono ?_; rintro e w' ⟨rfl, rfl⟩))
  go_loopw [5, 22] (fun x i wr => ∃ k : Nat, k ≤ 4 ∧ i = .int .i64 k ∧ x = .int .u32 (encTo op d a b n k) ∧ Aside0 (wr.heap[w.heap.size]? = some (.cells #[.int .i64 op, .int .i64 d, .int .i64 a, .int .i64 b, .int .i64 n] 52 (0, 0))) ∧
      Aside0 (wr.heap[w'.heap.size]? = some (.cells fieldCells 100 (0, 0))) ∧ Aside0 (Below w.heap.size w wr)) (fun _ i _ => 4 - (intOf i).toNat)
  case atStart =>
    refine ⟨0, by omega, rfl, rfl, ⟨blk_alloc (blk_drewN (blk_below (blk_new _ _) hb) _) _⟩, ⟨?_⟩, ⟨?_⟩⟩
    · have := blk_new (w'.drewN q) (.cells fieldCells 100)
      simpa using this
    · exact below_then (below_alloc (Below.refl _ _) _) (by simp) (below_then hb hb.size (below_alloc (pw_below_drewN (Below.refl _ _) _) _))
  case round =>
    obtain ⟨k, hk, rfl, rfl, HI, HF, HB⟩ := hrel
    have hI1 : ∀ o, (wr.alloc o).cell? ⟨w.heap.size, 1, none⟩ = some (.int .i64 d) := fun o => blk_cell (blk_alloc HI.out o) 1
    have hI2 : ∀ o, (wr.alloc o).cell? ⟨w.heap.size, 2, none⟩ = some (.int .i64 a) := fun o => blk_cell (blk_alloc HI.out o) 2
    have hI3 : ∀ o, (wr.alloc o).cell? ⟨w.heap.size, 3, none⟩ = some (.int .i64 b) := fun o => blk_cell (blk_alloc HI.out o) 3
    have hI4 : ∀ o, (wr.alloc o).cell? ⟨w.heap.size, 4, none⟩ = some (.int .i64 n) := fun o => blk_cell (blk_alloc HI.out o) 4
    match k, hk with
    | 0, _ =>
      have hF0 : wr.cell? ⟨w'.heap.size, 0, none⟩ = some (.func (.func 88) #[] #[]) := blk_cell HF.out 0
      have hF1 : wr.cell? ⟨w'.heap.size, 1, none⟩ = some (.int .u64 21) := blk_cell HF.out 1
      have hF2 : wr.cell? ⟨w'.heap.size, 2, none⟩ = some (.int .u64 5) := blk_cell HF.out 2
      go_wp2_with fail
      go_quiet ((go_at_call 88; exact Calls.quiet_of_same ((fieldD_any _ _).mono fun _ _ h => ⟨h.1, h.2.symm⟩)))
      go_wp2_with fail
      go_roundw
      case rel => exact ⟨1, by omega, rfl, rfl, ⟨by repeat (first | exact HI.out | apply blk_alloc | apply blk_drewN)⟩, ⟨by repeat (first | exact HF.out | apply blk_alloc | apply blk_drewN)⟩, ⟨by repeat (first | exact HB.out | apply below_alloc | apply pw_below_drewN)⟩⟩
      case measure => simp [intOf]
    | 1, _ =>
      have hF0 : wr.cell? ⟨w'.heap.size, 3, none⟩ = some (.func (.func 89) #[] #[]) := blk_cell HF.out 3
      have hF1 : wr.cell? ⟨w'.heap.size, 4, none⟩ = some (.int .u64 16) := blk_cell HF.out 4
      have hF2 : wr.cell? ⟨w'.heap.size, 5, none⟩ = some (.int .u64 5) := blk_cell HF.out 5
      go_wp2_with fail
      go_quiet ((go_at_call 89; exact Calls.quiet_of_same ((fieldA_any _ _).mono fun _ _ h => ⟨h.1, h.2.symm⟩)))
      go_wp2_with fail
      go_roundw
      case rel => exact ⟨2, by omega, rfl, rfl, ⟨by repeat (first | exact HI.out | apply blk_alloc | apply blk_drewN)⟩, ⟨by repeat (first | exact HF.out | apply blk_alloc | apply blk_drewN)⟩, ⟨by repeat (first | exact HB.out | apply below_alloc | apply pw_below_drewN)⟩⟩
      case measure => simp [intOf]
    | 2, _ =>
      have hF0 : wr.cell? ⟨w'.heap.size, 6, none⟩ = some (.func (.func 90) #[] #[]) := blk_cell HF.out 6
      have hF1 : wr.cell? ⟨w'.heap.size, 7, none⟩ = some (.int .u64 11) := blk_cell HF.out 7
      have hF2 : wr.cell? ⟨w'.heap.size, 8, none⟩ = some (.int .u64 5) := blk_cell HF.out 8
      go_wp2_with fail
      go_quiet ((go_at_call 90; exact Calls.quiet_of_same ((fieldB_any _ _).mono fun _ _ h => ⟨h.1, h.2.symm⟩)))
      go_wp2_with fail
      go_roundw
      case rel => exact ⟨3, by omega, rfl, rfl, ⟨by repeat (first | exact HI.out | apply blk_alloc | apply blk_drewN)⟩, ⟨by repeat (first | exact HF.out | apply blk_alloc | apply blk_drewN)⟩, ⟨by repeat (first | exact HB.out | apply below_alloc | apply pw_below_drewN)⟩⟩
      case measure => simp [intOf]
    | 3, _ =>
      have hF0 : wr.cell? ⟨w'.heap.size, 9, none⟩ = some (.func (.func 91) #[] #[]) := blk_cell HF.out 9
      have hF1 : wr.cell? ⟨w'.heap.size, 10, none⟩ = some (.int .u64 0) := blk_cell HF.out 10
      have hF2 : wr.cell? ⟨w'.heap.size, 11, none⟩ = some (.int .u64 16) := blk_cell HF.out 11
      go_wp2_with fail
      go_quiet ((go_at_call 91; exact Calls.quiet_of_same ((fieldN_any _ _).mono fun _ _ h => ⟨h.1, h.2.symm⟩)))
      go_wp2_with fail
      go_roundw
      case rel => exact ⟨4, by omega, rfl, rfl, ⟨by repeat (first | exact HI.out | apply blk_alloc | apply blk_drewN)⟩, ⟨by repeat (first | exact HF.out | apply blk_alloc | apply blk_drewN)⟩, ⟨by repeat (first | exact HB.out | apply below_alloc | apply pw_below_drewN)⟩⟩
      case measure => simp [intOf]
    | 4, _ =>
      go_wp2_with fail
      refine bodyPost_ret (v := .tuple #[.int .u32 (encTo op d a b n 4), .int .i64 0]) (by simp [results, Try.results33, go_sem]) rfl ⟨rfl, HB.out⟩
end Go.Proofs.Ytbcmckfceeakhaa.Gv
end

section
set_option linter.unusedVariables false
set_option linter.unusedSimpArgs false
namespace Go.Proofs.Ytbcmckfceeakhaa.Gv
open Go.RowKit Go.Proofs.YtbcmckfceeakhaaW.PrintWords Go.Proofs.Ytbcmckfceeakhaa.GB

/-- What a field's bits tell, by its letter. -/
def fv (c y : Int) : Int := if (c == 45) = true then 0 else if (c == 115) = true then wrap64 (IntKind.i16.wrap y) else y
/-- The fields of a word. -/
def dFld (x : Int) : Nat → Int
  | 0 => fv (ltr (x / 67108864) 0) (wrap64 (bits BinOp.and IntKind.u32 (x / 2097152) 31))
  | 1 => fv (ltr (x / 67108864) 1) (wrap64 (bits BinOp.and IntKind.u32 (x / 65536) 31))
  | 2 => fv (ltr (x / 67108864) 2) (wrap64 (bits BinOp.and IntKind.u32 (x / 2048) 31))
  | _ => fv (ltr (x / 67108864) 3) (wrap64 (bits BinOp.and IntKind.u32 x 65535))
/-- What a word is decoded to. -/
def decOk (x : Int) : Prop := chk (x / 67108864) (dFld x 0) (dFld x 1) (dFld x 2) (dFld x 3) = 0 ∧ encTo (x / 67108864) (dFld x 0) (dFld x 1) (dFld x 2) (dFld x 3) 4 = x
open Classical in
noncomputable def decV (x : Int) : Value :=
  if decOk x then .tuple #[.agg #[.int .i64 (x / 67108864), .int .i64 (dFld x 0), .int .i64 (dFld x 1), .int .i64 (dFld x 2), .int .i64 (dFld x 3)], .int .i64 0]
  else .tuple #[.agg #[.int .i64 0, .int .i64 0, .int .i64 0, .int .i64 0, .int .i64 0], .int .i64 3]
def dTo (x : Int) (k j : Nat) : Int := if j < k then dFld x j else 0
def decCells (x : Int) (k : Nat) : Array Value := #[.int .i64 (x / 67108864), .int .i64 (dTo x k 0), .int .i64 (dTo x k 1), .int .i64 (dTo x k 2), .int .i64 (dTo x k 3)]
theorem decCells_next (x : Int) (k : Nat) (hk : k < 4) (y : Int) (hy : y = dFld x k) : (decCells x k).setIfInBounds (k + 1) (.int .i64 y) = decCells x (k + 1) := by
  subst hy
  match k, hk with
  | 0, _ => rfl
  | 1, _ => rfl
  | 2, _ => rfl
  | 3, _ => rfl
theorem fv1 {c y : Int} (h : (c == 45) = true) : 0 = fv c y := by unfold fv; rw [if_pos h]
theorem fv2 {c y : Int} (h : (c == 45) = false) (h2 : (c == 115) = true) : wrap64 (IntKind.i16.wrap y) = fv c y := by unfold fv; rw [if_neg (by rw [h]; decide), if_pos h2]
theorem fv3 {c y : Int} (h : (c == 45) = false) (h2 : (c == 115) = false) : y = fv c y := by unfold fv; rw [if_neg (by rw [h]; decide), if_neg (by rw [h2]; decide)]
theorem put5 {W : World} {g t : Nat} {a0 a1 a2 a3 a4 : Value} (h : W.heap[g]? = some (.cells #[a0, a1, a2, a3, a4] t (0, 0))) (b0 b1 b2 b3 b4 : Value) :
    (((((W.setCell ⟨g, 0, none⟩ b0).setCell ⟨g, 1, none⟩ b1).setCell ⟨g, 2, none⟩ b2).setCell ⟨g, 3, none⟩ b3).setCell ⟨g, 4, none⟩ b4).heap[g]? = some (.cells #[b0, b1, b2, b3, b4] t (0, 0)) :=
  blk_put (blk_put (blk_put (blk_put (blk_put h 0 b0 rfl) 1 b1 rfl) 2 b2 rfl) 3 b3 rfl) 4 b4 rfl
theorem below5 {W w : World} {B g : Nat} (h : Below B w W) (hg : B ≤ g) (b0 b1 b2 b3 b4 : Value) :
    Below B w (((((W.setCell ⟨g, 0, none⟩ b0).setCell ⟨g, 1, none⟩ b1).setCell ⟨g, 2, none⟩ b2).setCell ⟨g, 3, none⟩ b3).setCell ⟨g, 4, none⟩ b4) :=
  ((((h.setCell (p := ⟨g, 0, none⟩) hg b0).setCell (p := ⟨g, 1, none⟩) hg b1).setCell (p := ⟨g, 2, none⟩) hg b2).setCell (p := ⟨g, 3, none⟩) hg b3).setCell (p := ⟨g, 4, none⟩) hg b4
set_option maxHeartbeats 1000000 in
theorem dec_none (x : Int) (h0 : 0 ≤ x) (hx : x < 4294967296) (h : x / 67108864 < 1 ∨ 43 < x / 67108864) (w : World) :
    Calls Try.prog 56 #[.int .u32 x] w fun e w' => e = .returned (.tuple #[.agg #[.int .i64 0, .int .i64 0, .int .i64 0, .int .i64 0, .int .i64 0], .int .i64 2]) ∧ Below w.heap.size w w' := by
  have he : ((shp (x / 67108864)).toList = []) := by rw [shp_none _ h, ByteArray.toList_eq]
  go_enter Try.func56, Try.ntmps56
  go_wp2_with (first | (go_at_call 73; refine (shp_any _ _).mono ?_; rintro e w' ⟨rfl, hd⟩; obtain ⟨q, rfl⟩ := hd.out))
  refine bodyPost_ret (results_ct rfl _ _ w.heap.size 52 #[.int .i64 0, .int .i64 0, .int .i64 0, .int .i64 0, .int .i64 0] (0, 0) _ rfl (put5 (blk_drewN (blk_alloc (blk_new _ _) _) _) _ _ _ _ _) Try.underlying52 rfl (by kernel_rfl)) rfl
    ⟨rfl, below5 (pw_below_drewN (below_alloc (below_alloc (Below.refl _ _) _) _) _) (Nat.le_refl _) _ _ _ _ _⟩
set_option maxHeartbeats 4000000 in
theorem dec_some (x : Int) (h0 : 0 ≤ x) (hx : x < 4294967296) (h1 : 1 ≤ x / 67108864) (h2 : x / 67108864 ≤ 43) (w : World) :
    Calls Try.prog 56 #[.int .u32 x] w fun e w' => e = .returned (decV x) ∧ Below w.heap.size w w' := by
  have hs := shp_size (x / 67108864) h1 h2
  have he : (shp (x / 67108864)).toList.isEmpty = false := shp_full h1 h2
  have hs3 : 3 < (shp (x / 67108864)).size := by omega
  have hb0 : ∀ h : 0 < (shp (x / 67108864)).size, (((shp (x / 67108864))[0]'h).toNat : Int) = ltr (x / 67108864) 0 := fun h => bt_at (shp (x / 67108864)) 0 h
  have hb1 : ∀ h : 1 < (shp (x / 67108864)).size, (((shp (x / 67108864))[1]'h).toNat : Int) = ltr (x / 67108864) 1 := fun h => bt_at (shp (x / 67108864)) 1 h
  have hb2 : ∀ h : 2 < (shp (x / 67108864)).size, (((shp (x / 67108864))[2]'h).toNat : Int) = ltr (x / 67108864) 2 := fun h => bt_at (shp (x / 67108864)) 2 h
  have hb3 : ∀ h : 3 < (shp (x / 67108864)).size, (((shp (x / 67108864))[3]'h).toNat : Int) = ltr (x / 67108864) 3 := fun h => bt_at (shp (x / 67108864)) 3 h
  have HS := Lib.hid hs
  clear hs
  go_enter Try.func56, Try.ntmps56
  go_wp2_with (first | (go_at_call 73; refine (shp_any _ _).mono ?_; rintro e w' ⟨rfl, hd⟩; obtain ⟨q, rfl⟩ := hd.out) | (go_at_call 72; refine (fields_any _ HS.out _).mono ?_; rintro e w' ⟨rfl, rfl⟩))
  go_loopw [24] (fun i wr => ∃ k : Nat, k ≤ 4 ∧ i = .int .i64 k ∧ Aside0 (wr.heap[w.heap.size + 1]? = some (.cells (decCells x k) 52 (0, 0))) ∧ Aside0 (wr.heap[w.heap.size]? = some (.cells #[.int .i64 0, .int .i64 0, .int .i64 0, .int .i64 0, .int .i64 0] 52 (0, 0))) ∧
      Aside0 (wr.heap[w.heap.size + 1 + 1]? = some (.cells fieldCells 100 (0, 0))) ∧ Aside0 (Below w.heap.size w wr)) (fun i _ => 4 - (intOf i).toNat)
  case atStart =>
    refine ⟨0, by omega, rfl, ⟨?_⟩, ⟨?_⟩, ⟨?_⟩, ⟨?_⟩⟩
    · have := blk_alloc (blk_drewN (blk_new (w.alloc (.cells #[.int .i64 0, .int .i64 0, .int .i64 0, .int .i64 0, .int .i64 0] 52)) (.cells (decCells x 0) 52)) q) (.cells fieldCells 100)
      rw [World.size_alloc] at this
      exact this
    · exact blk_alloc (blk_drewN (blk_alloc (blk_new w _) _) _) _
    · have := blk_new (((w.alloc (.cells #[.int .i64 0, .int .i64 0, .int .i64 0, .int .i64 0, .int .i64 0] 52)).alloc (.cells (decCells x 0) 52)).drewN q) (.cells fieldCells 100)
      rw [World.heap_drewN, World.size_alloc, World.size_alloc] at this
      exact this
    · exact below_alloc (pw_below_drewN (below_alloc (below_alloc (Below.refl _ _) _) _) _) _
  case round =>
    obtain ⟨k, hk, rfl, HI, HZ, HF, HB⟩ := hrel
    match k, hk with
    | 0, _ =>
      have hI1 : ∀ o, (wr.alloc o).cell? ⟨w.heap.size + 1, 1, none⟩ = some (.int .i64 0) := fun o => blk_cell (blk_alloc HI.out o) 1
      have hI2 : ∀ o, (wr.alloc o).frozen? ⟨w.heap.size + 1, 1, none⟩ = false := fun o => blk_frozen (blk_alloc HI.out o) 1
      have hF0 : wr.cell? ⟨w.heap.size + 1 + 1, 0, none⟩ = some (.func (.func 88) #[] #[]) := blk_cell HF.out 0
      have hF1 : wr.cell? ⟨w.heap.size + 1 + 1, 1, none⟩ = some (.int .u64 21) := blk_cell HF.out 1
      have hF2 : wr.cell? ⟨w.heap.size + 1 + 1, 2, none⟩ = some (.int .u64 5) := blk_cell HF.out 2
      go_wp2_with (first | (go_at_call 88; refine (fieldD_any _ _).mono ?_; rintro e w' ⟨rfl, rfl⟩))
      · have hh : (ltr (x / 67108864) 0 == 45) = true := by assumption
        go_roundw
        case rel => exact ⟨1, by omega, rfl, ⟨blk_put (blk_alloc HI.out _) 1 _ (decCells_next x 0 (by decide) _ (fv1 hh))⟩, ⟨blk_far (blk_alloc HZ.out _) (by simp) _⟩, ⟨blk_far (blk_alloc HF.out _) (by simp) _⟩, ⟨(below_alloc HB.out _).setCell (by simp) _⟩⟩
        case measure => simp [intOf]
      · have hh : (ltr (x / 67108864) 0 == 45) = false := by assumption
        have hh2 : (ltr (x / 67108864) 0 == 115) = true := by assumption
        go_roundw
        case rel => exact ⟨1, by omega, rfl, ⟨blk_put (blk_alloc HI.out _) 1 _ (decCells_next x 0 (by decide) _ (fv2 hh hh2))⟩, ⟨blk_far (blk_alloc HZ.out _) (by simp) _⟩, ⟨blk_far (blk_alloc HF.out _) (by simp) _⟩, ⟨(below_alloc HB.out _).setCell (by simp) _⟩⟩
        case measure => simp [intOf]
      · have hh : (ltr (x / 67108864) 0 == 45) = false := by assumption
        have hh2 : (ltr (x / 67108864) 0 == 115) = false := by assumption
        go_roundw
        case rel => exact ⟨1, by omega, rfl, ⟨blk_put (blk_alloc HI.out _) 1 _ (decCells_next x 0 (by decide) _ (fv3 hh hh2))⟩, ⟨blk_far (blk_alloc HZ.out _) (by simp) _⟩, ⟨blk_far (blk_alloc HF.out _) (by simp) _⟩, ⟨(below_alloc HB.out _).setCell (by simp) _⟩⟩
        case measure => simp [intOf]
    | 1, _ =>
      have hI1 : ∀ o, (wr.alloc o).cell? ⟨w.heap.size + 1, 2, none⟩ = some (.int .i64 0) := fun o => blk_cell (blk_alloc HI.out o) 2
      have hI2 : ∀ o, (wr.alloc o).frozen? ⟨w.heap.size + 1, 2, none⟩ = false := fun o => blk_frozen (blk_alloc HI.out o) 2
      have hF0 : wr.cell? ⟨w.heap.size + 1 + 1, 3, none⟩ = some (.func (.func 89) #[] #[]) := blk_cell HF.out 3
      have hF1 : wr.cell? ⟨w.heap.size + 1 + 1, 4, none⟩ = some (.int .u64 16) := blk_cell HF.out 4
      have hF2 : wr.cell? ⟨w.heap.size + 1 + 1, 5, none⟩ = some (.int .u64 5) := blk_cell HF.out 5
      go_wp2_with (first | (go_at_call 89; refine (fieldA_any _ _).mono ?_; rintro e w' ⟨rfl, rfl⟩))
      · have hh : (ltr (x / 67108864) 1 == 45) = true := by assumption
        go_roundw
        case rel => exact ⟨2, by omega, rfl, ⟨blk_put (blk_alloc HI.out _) 2 _ (decCells_next x 1 (by decide) _ (fv1 hh))⟩, ⟨blk_far (blk_alloc HZ.out _) (by simp) _⟩, ⟨blk_far (blk_alloc HF.out _) (by simp) _⟩, ⟨(below_alloc HB.out _).setCell (by simp) _⟩⟩
        case measure => simp [intOf]
      · have hh : (ltr (x / 67108864) 1 == 45) = false := by assumption
        have hh2 : (ltr (x / 67108864) 1 == 115) = true := by assumption
        go_roundw
        case rel => exact ⟨2, by omega, rfl, ⟨blk_put (blk_alloc HI.out _) 2 _ (decCells_next x 1 (by decide) _ (fv2 hh hh2))⟩, ⟨blk_far (blk_alloc HZ.out _) (by simp) _⟩, ⟨blk_far (blk_alloc HF.out _) (by simp) _⟩, ⟨(below_alloc HB.out _).setCell (by simp) _⟩⟩
        case measure => simp [intOf]
      · have hh : (ltr (x / 67108864) 1 == 45) = false := by assumption
        have hh2 : (ltr (x / 67108864) 1 == 115) = false := by assumption
        go_roundw
        case rel => exact ⟨2, by omega, rfl, ⟨blk_put (blk_alloc HI.out _) 2 _ (decCells_next x 1 (by decide) _ (fv3 hh hh2))⟩, ⟨blk_far (blk_alloc HZ.out _) (by simp) _⟩, ⟨blk_far (blk_alloc HF.out _) (by simp) _⟩, ⟨(below_alloc HB.out _).setCell (by simp) _⟩⟩
        case measure => simp [intOf]
    | 2, _ =>
      have hI1 : ∀ o, (wr.alloc o).cell? ⟨w.heap.size + 1, 3, none⟩ = some (.int .i64 0) := fun o => blk_cell (blk_alloc HI.out o) 3
      have hI2 : ∀ o, (wr.alloc o).frozen? ⟨w.heap.size + 1, 3, none⟩ = false := fun o => blk_frozen (blk_alloc HI.out o) 3
      have hF0 : wr.cell? ⟨w.heap.size + 1 + 1, 6, none⟩ = some (.func (.func 90) #[] #[]) := blk_cell HF.out 6
      have hF1 : wr.cell? ⟨w.heap.size + 1 + 1, 7, none⟩ = some (.int .u64 11) := blk_cell HF.out 7
      have hF2 : wr.cell? ⟨w.heap.size + 1 + 1, 8, none⟩ = some (.int .u64 5) := blk_cell HF.out 8
      go_wp2_with (first | (go_at_call 90; refine (fieldB_any _ _).mono ?_; rintro e w' ⟨rfl, rfl⟩))
      · have hh : (ltr (x / 67108864) 2 == 45) = true := by assumption
        go_roundw
        case rel => exact ⟨3, by omega, rfl, ⟨blk_put (blk_alloc HI.out _) 3 _ (decCells_next x 2 (by decide) _ (fv1 hh))⟩, ⟨blk_far (blk_alloc HZ.out _) (by simp) _⟩, ⟨blk_far (blk_alloc HF.out _) (by simp) _⟩, ⟨(below_alloc HB.out _).setCell (by simp) _⟩⟩
        case measure => simp [intOf]
      · have hh : (ltr (x / 67108864) 2 == 45) = false := by assumption
        have hh2 : (ltr (x / 67108864) 2 == 115) = true := by assumption
        go_roundw
        case rel => exact ⟨3, by omega, rfl, ⟨blk_put (blk_alloc HI.out _) 3 _ (decCells_next x 2 (by decide) _ (fv2 hh hh2))⟩, ⟨blk_far (blk_alloc HZ.out _) (by simp) _⟩, ⟨blk_far (blk_alloc HF.out _) (by simp) _⟩, ⟨(below_alloc HB.out _).setCell (by simp) _⟩⟩
        case measure => simp [intOf]
      · have hh : (ltr (x / 67108864) 2 == 45) = false := by assumption
        have hh2 : (ltr (x / 67108864) 2 == 115) = false := by assumption
        go_roundw
        case rel => exact ⟨3, by omega, rfl, ⟨blk_put (blk_alloc HI.out _) 3 _ (decCells_next x 2 (by decide) _ (fv3 hh hh2))⟩, ⟨blk_far (blk_alloc HZ.out _) (by simp) _⟩, ⟨blk_far (blk_alloc HF.out _) (by simp) _⟩, ⟨(below_alloc HB.out _).setCell (by simp) _⟩⟩
        case measure => simp [intOf]
    | 3, _ =>
      have hI1 : ∀ o, (wr.alloc o).cell? ⟨w.heap.size + 1, 4, none⟩ = some (.int .i64 0) := fun o => blk_cell (blk_alloc HI.out o) 4
      have hI2 : ∀ o, (wr.alloc o).frozen? ⟨w.heap.size + 1, 4, none⟩ = false := fun o => blk_frozen (blk_alloc HI.out o) 4
      have hF0 : wr.cell? ⟨w.heap.size + 1 + 1, 9, none⟩ = some (.func (.func 91) #[] #[]) := blk_cell HF.out 9
      have hF1 : wr.cell? ⟨w.heap.size + 1 + 1, 10, none⟩ = some (.int .u64 0) := blk_cell HF.out 10
      have hF2 : wr.cell? ⟨w.heap.size + 1 + 1, 11, none⟩ = some (.int .u64 16) := blk_cell HF.out 11
      go_wp2_with (first | (go_at_call 91; refine (fieldN_any _ _).mono ?_; rintro e w' ⟨rfl, rfl⟩))
      · have hh : (ltr (x / 67108864) 3 == 45) = true := by assumption
        go_roundw
        case rel => exact ⟨4, by omega, rfl, ⟨blk_put (blk_alloc HI.out _) 4 _ (decCells_next x 3 (by decide) _ (fv1 hh))⟩, ⟨blk_far (blk_alloc HZ.out _) (by simp) _⟩, ⟨blk_far (blk_alloc HF.out _) (by simp) _⟩, ⟨(below_alloc HB.out _).setCell (by simp) _⟩⟩
        case measure => simp [intOf]
      · have hh : (ltr (x / 67108864) 3 == 45) = false := by assumption
        have hh2 : (ltr (x / 67108864) 3 == 115) = true := by assumption
        go_roundw
        case rel => exact ⟨4, by omega, rfl, ⟨blk_put (blk_alloc HI.out _) 4 _ (decCells_next x 3 (by decide) _ (fv2 hh hh2))⟩, ⟨blk_far (blk_alloc HZ.out _) (by simp) _⟩, ⟨blk_far (blk_alloc HF.out _) (by simp) _⟩, ⟨(below_alloc HB.out _).setCell (by simp) _⟩⟩
        case measure => simp [intOf]
      · have hh : (ltr (x / 67108864) 3 == 45) = false := by assumption
        have hh2 : (ltr (x / 67108864) 3 == 115) = false := by assumption
        go_roundw
        case rel => exact ⟨4, by omega, rfl, ⟨blk_put (blk_alloc HI.out _) 4 _ (decCells_next x 3 (by decide) _ (fv3 hh hh2))⟩, ⟨blk_far (blk_alloc HZ.out _) (by simp) _⟩, ⟨blk_far (blk_alloc HF.out _) (by simp) _⟩, ⟨(below_alloc HB.out _).setCell (by simp) _⟩⟩
        case measure => simp [intOf]
    | 4, _ =>
      have hI : ∀ o, (wr.alloc o).heap[w.heap.size + 1]? = some (.cells (decCells x 4) 52 (0, 0)) := fun o => blk_alloc HI.out o
      have hI0 : wr.cell? ⟨w.heap.size + 1, 0, none⟩ = some (.int .i64 (x / 67108864)) := blk_cell HI.out 0
      have hI1 : wr.cell? ⟨w.heap.size + 1, 1, none⟩ = some (.int .i64 (dTo x 4 0)) := blk_cell HI.out 1
      have hI2 : wr.cell? ⟨w.heap.size + 1, 2, none⟩ = some (.int .i64 (dTo x 4 1)) := blk_cell HI.out 2
      have hI3 : wr.cell? ⟨w.heap.size + 1, 3, none⟩ = some (.int .i64 (dTo x 4 2)) := blk_cell HI.out 3
      have hI4 : wr.cell? ⟨w.heap.size + 1, 4, none⟩ = some (.int .i64 (dTo x 4 3)) := blk_cell HI.out 4
      have hrB := HB.out.size
      go_wp2_with fail
      have HI' := HI
      have HZ' := HZ
      by_cases hc : chk (x / 67108864) (dTo x 4 0) (dTo x 4 1) (dTo x 4 2) (dTo x 4 3) = 0
      · by_cases hx2 : encTo (x / 67108864) (dTo x 4 0) (dTo x 4 1) (dTo x 4 2) (dTo x 4 3) 4 = x
        · have hv : decV x = .tuple #[.agg #[.int .i64 (x / 67108864), .int .i64 (dTo x 4 0), .int .i64 (dTo x 4 1), .int .i64 (dTo x 4 2), .int .i64 (dTo x 4 3)], .int .i64 0] := if_pos ⟨hc, hx2⟩
          have HV := Lib.hid hv
          have HC := Lib.hid hc
          have HX := Lib.hid hx2
          clear hv hc hx2
          refine (enc_yes _ _ _ _ _ h1 h2 HC.out _).mono ?_
          rintro e w' ⟨rfl, hb⟩
          rw [HX.out]
          have hzb := blk_below HZ.out hb
          have hib := blk_below HI.out hb
          have HZB := Aside0.mk hzb
          have hc0 : w'.cell? ⟨w.heap.size + 1, 0, none⟩ = some (.int .i64 (x / 67108864)) := blk_cell hib 0
          have hz0 : w'.cell? ⟨w.heap.size, 0, none⟩ = some (.int .i64 0) := blk_cell hzb 0
          have hf0 : w'.frozen? ⟨w.heap.size, 0, none⟩ = false := blk_frozen hzb 0
          have hc1 : w'.cell? ⟨w.heap.size + 1, 1, none⟩ = some (.int .i64 (dTo x 4 0)) := blk_cell hib 1
          have hz1 : w'.cell? ⟨w.heap.size, 1, none⟩ = some (.int .i64 0) := blk_cell hzb 1
          have hf1 : w'.frozen? ⟨w.heap.size, 1, none⟩ = false := blk_frozen hzb 1
          have hc2 : w'.cell? ⟨w.heap.size + 1, 2, none⟩ = some (.int .i64 (dTo x 4 1)) := blk_cell hib 2
          have hz2 : w'.cell? ⟨w.heap.size, 2, none⟩ = some (.int .i64 0) := blk_cell hzb 2
          have hf2 : w'.frozen? ⟨w.heap.size, 2, none⟩ = false := blk_frozen hzb 2
          have hc3 : w'.cell? ⟨w.heap.size + 1, 3, none⟩ = some (.int .i64 (dTo x 4 2)) := blk_cell hib 3
          have hz3 : w'.cell? ⟨w.heap.size, 3, none⟩ = some (.int .i64 0) := blk_cell hzb 3
          have hf3 : w'.frozen? ⟨w.heap.size, 3, none⟩ = false := blk_frozen hzb 3
          have hc4 : w'.cell? ⟨w.heap.size + 1, 4, none⟩ = some (.int .i64 (dTo x 4 3)) := blk_cell hib 4
          have hz4 : w'.cell? ⟨w.heap.size, 4, none⟩ = some (.int .i64 0) := blk_cell hzb 4
          have hf4 : w'.frozen? ⟨w.heap.size, 4, none⟩ = false := blk_frozen hzb 4
          clear hzb hib
          go_wp2_with fail
          refine bodyPost_ret (results_ct rfl _ _ w.heap.size 52 #[.int .i64 (x / 67108864), .int .i64 (dTo x 4 0), .int .i64 (dTo x 4 1), .int .i64 (dTo x 4 2), .int .i64 (dTo x 4 3)] (0, 0) _ rfl (put5 HZB.out _ _ _ _ _) Try.underlying52 rfl (by kernel_rfl)) rfl
            ⟨by rw [HV.out]; rfl, below5 (below_then HB.out HB.out.size hb) (Nat.le_refl _) _ _ _ _ _⟩
        · have hv : decV x = .tuple #[.agg #[.int .i64 0, .int .i64 0, .int .i64 0, .int .i64 0, .int .i64 0], .int .i64 3] := if_neg fun h => hx2 h.2
          have HV := Lib.hid hv
          have HC := Lib.hid hc
          have hne : (encTo (x / 67108864) (dTo x 4 0) (dTo x 4 1) (dTo x 4 2) (dTo x 4 3) 4 != x) = true := bne_iff_ne.2 hx2
          clear hv hc hx2
          refine (enc_yes _ _ _ _ _ h1 h2 HC.out _).mono ?_
          rintro e w' ⟨rfl, hb⟩
          have hzb := blk_below HZ.out hb
          have hib := blk_below HI.out hb
          have HZB := Aside0.mk hzb
          have hc0 : w'.cell? ⟨w.heap.size + 1, 0, none⟩ = some (.int .i64 (x / 67108864)) := blk_cell hib 0
          have hz0 : w'.cell? ⟨w.heap.size, 0, none⟩ = some (.int .i64 0) := blk_cell hzb 0
          have hf0 : w'.frozen? ⟨w.heap.size, 0, none⟩ = false := blk_frozen hzb 0
          have hc1 : w'.cell? ⟨w.heap.size + 1, 1, none⟩ = some (.int .i64 (dTo x 4 0)) := blk_cell hib 1
          have hz1 : w'.cell? ⟨w.heap.size, 1, none⟩ = some (.int .i64 0) := blk_cell hzb 1
          have hf1 : w'.frozen? ⟨w.heap.size, 1, none⟩ = false := blk_frozen hzb 1
          have hc2 : w'.cell? ⟨w.heap.size + 1, 2, none⟩ = some (.int .i64 (dTo x 4 1)) := blk_cell hib 2
          have hz2 : w'.cell? ⟨w.heap.size, 2, none⟩ = some (.int .i64 0) := blk_cell hzb 2
          have hf2 : w'.frozen? ⟨w.heap.size, 2, none⟩ = false := blk_frozen hzb 2
          have hc3 : w'.cell? ⟨w.heap.size + 1, 3, none⟩ = some (.int .i64 (dTo x 4 2)) := blk_cell hib 3
          have hz3 : w'.cell? ⟨w.heap.size, 3, none⟩ = some (.int .i64 0) := blk_cell hzb 3
          have hf3 : w'.frozen? ⟨w.heap.size, 3, none⟩ = false := blk_frozen hzb 3
          have hc4 : w'.cell? ⟨w.heap.size + 1, 4, none⟩ = some (.int .i64 (dTo x 4 3)) := blk_cell hib 4
          have hz4 : w'.cell? ⟨w.heap.size, 4, none⟩ = some (.int .i64 0) := blk_cell hzb 4
          have hf4 : w'.frozen? ⟨w.heap.size, 4, none⟩ = false := blk_frozen hzb 4
          clear hzb hib
          go_wp2_with fail
          refine bodyPost_ret (results_ct rfl _ _ w.heap.size 52 #[.int .i64 0, .int .i64 0, .int .i64 0, .int .i64 0, .int .i64 0] (0, 0) _ rfl (put5 HZB.out _ _ _ _ _) Try.underlying52 rfl (by kernel_rfl)) rfl
            ⟨by rw [HV.out]; rfl, below5 (below_then HB.out HB.out.size hb) (Nat.le_refl _) _ _ _ _ _⟩
      · have hv : decV x = .tuple #[.agg #[.int .i64 0, .int .i64 0, .int .i64 0, .int .i64 0, .int .i64 0], .int .i64 3] := if_neg fun h => hc h.1
        have HV := Lib.hid hv
        have hne : (chk (x / 67108864) (dTo x 4 0) (dTo x 4 1) (dTo x 4 2) (dTo x 4 3) != 0) = true := bne_iff_ne.2 hc
        have HC := Lib.hid hc
        clear hv hc
        refine (enc_no _ _ _ _ _ HC.out _).mono ?_
        rintro e w' ⟨rfl, hb⟩
        have hzb := blk_below HZ.out hb
        have hib := blk_below HI.out hb
        have HZB := Aside0.mk hzb
        have hc0 : w'.cell? ⟨w.heap.size + 1, 0, none⟩ = some (.int .i64 (x / 67108864)) := blk_cell hib 0
        have hz0 : w'.cell? ⟨w.heap.size, 0, none⟩ = some (.int .i64 0) := blk_cell hzb 0
        have hf0 : w'.frozen? ⟨w.heap.size, 0, none⟩ = false := blk_frozen hzb 0
        have hc1 : w'.cell? ⟨w.heap.size + 1, 1, none⟩ = some (.int .i64 (dTo x 4 0)) := blk_cell hib 1
        have hz1 : w'.cell? ⟨w.heap.size, 1, none⟩ = some (.int .i64 0) := blk_cell hzb 1
        have hf1 : w'.frozen? ⟨w.heap.size, 1, none⟩ = false := blk_frozen hzb 1
        have hc2 : w'.cell? ⟨w.heap.size + 1, 2, none⟩ = some (.int .i64 (dTo x 4 1)) := blk_cell hib 2
        have hz2 : w'.cell? ⟨w.heap.size, 2, none⟩ = some (.int .i64 0) := blk_cell hzb 2
        have hf2 : w'.frozen? ⟨w.heap.size, 2, none⟩ = false := blk_frozen hzb 2
        have hc3 : w'.cell? ⟨w.heap.size + 1, 3, none⟩ = some (.int .i64 (dTo x 4 2)) := blk_cell hib 3
        have hz3 : w'.cell? ⟨w.heap.size, 3, none⟩ = some (.int .i64 0) := blk_cell hzb 3
        have hf3 : w'.frozen? ⟨w.heap.size, 3, none⟩ = false := blk_frozen hzb 3
        have hc4 : w'.cell? ⟨w.heap.size + 1, 4, none⟩ = some (.int .i64 (dTo x 4 3)) := blk_cell hib 4
        have hz4 : w'.cell? ⟨w.heap.size, 4, none⟩ = some (.int .i64 0) := blk_cell hzb 4
        have hf4 : w'.frozen? ⟨w.heap.size, 4, none⟩ = false := blk_frozen hzb 4
        clear hzb hib
        go_wp2_with fail
        refine bodyPost_ret (results_ct rfl _ _ w.heap.size 52 #[.int .i64 0, .int .i64 0, .int .i64 0, .int .i64 0, .int .i64 0] (0, 0) _ rfl (put5 HZB.out _ _ _ _ _) Try.underlying52 rfl (by kernel_rfl)) rfl
          ⟨by rw [HV.out]; rfl, below5 (below_then HB.out HB.out.size hb) (Nat.le_refl _) _ _ _ _ _⟩

open Classical in
/-- What a word is decoded to: an operation, three registers, a number; an error. -/
noncomputable def dec (x : Int) : Int × Int × Int × Int × Int × Int :=
  if x / 67108864 < 1 ∨ 43 < x / 67108864 then (0, 0, 0, 0, 0, 2) else if decOk x then (x / 67108864, dFld x 0, dFld x 1, dFld x 2, dFld x 3, 0) else (0, 0, 0, 0, 0, 3)
theorem dec_any (x : Int) (h0 : 0 ≤ x) (hx : x < 4294967296) (w : World) :
    Calls Try.prog 56 #[.int .u32 x] w fun e w' => e = .returned (.tuple #[.agg #[.int .i64 (dec x).1, .int .i64 (dec x).2.1, .int .i64 (dec x).2.2.1, .int .i64 (dec x).2.2.2.1, .int .i64 (dec x).2.2.2.2.1], .int .i64 (dec x).2.2.2.2.2]) ∧ Below w.heap.size w w' := by
  by_cases h : x / 67108864 < 1 ∨ 43 < x / 67108864
  · have e : dec x = (0, 0, 0, 0, 0, 2) := by unfold dec; rw [if_pos h]
    rw [e]
    exact dec_none x h0 hx h w
  · refine (dec_some x h0 hx (by omega) (by omega) w).mono ?_
    rintro e w' ⟨rfl, hb⟩
    refine ⟨?_, hb⟩
    unfold decV dec
    rw [if_neg h]
    by_cases hd : decOk x
    · rw [if_pos hd, if_pos hd]
    · rw [if_neg hd, if_neg hd]
end Go.Proofs.Ytbcmckfceeakhaa.Gv
end

section
set_option linter.unusedVariables false
set_option linter.unusedSimpArgs false
namespace Go.Proofs.Ytbcmckfceeakhaa.Gv
open Go.RowKit Go.Proofs.YtbcmckfceeakhaaW.PrintWords

theorem ofInt32 (a : Nat) (ha : a < 4294967296) : (BitVec.ofInt 32 (a : Int)).toNat = a := by
  rw [BitVec.ofInt_natCast, BitVec.toNat_ofNat]; exact Nat.mod_eq_of_lt (by omega)
theorem wrap_u32 (n : Int) : IntKind.u32.wrap n = n % 4294967296 := by simp [IntKind.wrap, IntKind.bits, IntKind.signed]
theorem and_u32 (a b : Nat) (ha : a < 4294967296) (hb : b < 4294967296) : bits .and .u32 (a : Int) (b : Int) = ((a &&& b : Nat) : Int) := by
  have hx : a &&& b < 2 ^ 32 := Nat.lt_of_le_of_lt Nat.and_le_left (by omega)
  show IntKind.u32.wrap ((BitVec.ofInt 32 (a : Int) &&& BitVec.ofInt 32 (b : Int)).toNat : Int) = _
  rw [BitVec.toNat_and, ofInt32 a ha, ofInt32 b hb, wrap_u32]
  omega
theorem or_u32 (a b : Nat) (ha : a < 4294967296) (hb : b < 4294967296) : bits .or .u32 (a : Int) (b : Int) = ((a ||| b : Nat) : Int) := by
  have hx : a ||| b < 2 ^ 32 := Nat.or_lt_two_pow (by omega) (by omega)
  show IntKind.u32.wrap ((BitVec.ofInt 32 (a : Int) ||| BitVec.ofInt 32 (b : Int)).toNat : Int) = _
  rw [BitVec.toNat_or, ofInt32 a ha, ofInt32 b hb, wrap_u32]
  omega
theorem and_31 (x : Int) (h0 : 0 ≤ x) (hx : x < 4294967296) : bits .and .u32 x 31 = x % 32 := by
  obtain ⟨a, rfl⟩ := Int.eq_ofNat_of_zero_le h0
  have := and_u32 a 31 (by omega) (by omega)
  rw [show ((31 : Nat) : Int) = 31 from rfl] at this
  rw [this, show (31 : Nat) = 2 ^ 5 - 1 from rfl, Nat.and_two_pow_sub_one_eq_mod]
  omega
theorem and_65535 (x : Int) (h0 : 0 ≤ x) (hx : x < 4294967296) : bits .and .u32 x 65535 = x % 65536 := by
  obtain ⟨a, rfl⟩ := Int.eq_ofNat_of_zero_le h0
  have := and_u32 a 65535 (by omega) (by omega)
  rw [show ((65535 : Nat) : Int) = 65535 from rfl] at this
  rw [this, show (65535 : Nat) = 2 ^ 16 - 1 from rfl, Nat.and_two_pow_sub_one_eq_mod]
  omega
/-- Parts that do not meet are summed. -/
theorem or_sum (a b : Int) (k : Nat) (ha0 : 0 ≤ a) (hb0 : 0 ≤ b) (ha : a < 4294967296) (hk : (2 : Int) ^ k ∣ a) (hb : b < 2 ^ k) (hk32 : k ≤ 32) : bits .or .u32 a b = a + b := by
  obtain ⟨m, rfl⟩ := Int.eq_ofNat_of_zero_le ha0
  obtain ⟨n, rfl⟩ := Int.eq_ofNat_of_zero_le hb0
  have hk' : 2 ^ k ∣ m := by exact_mod_cast hk
  have hn : n < 2 ^ k := by exact_mod_cast hb
  have hp : 2 ^ k ≤ 2 ^ 32 := Nat.pow_le_pow_right (by omega) hk32
  rw [or_u32 m n (by omega) (by omega)]
  obtain ⟨c, rfl⟩ := hk'
  rw [← Nat.two_pow_add_eq_or_of_lt hn]
  omega
theorem wrap64_small (x : Int) (h0 : 0 ≤ x) (h : x < 4294967296) : wrap64 x = x := by unfold wrap64; omega

/-- A word's fields. -/
def fD (x : Int) : Int := x / 2097152 % 32
def fA (x : Int) : Int := x / 65536 % 32
def fB (x : Int) : Int := x / 2048 % 32
def fLo (x : Int) : Int := x % 65536
def fS (x : Int) : Int := if x % 65536 ≥ 32768 then x % 65536 - 65536 else x % 65536
def bad3 : Int × Int × Int × Int × Int × Int := (0, 0, 0, 0, 0, 3)
/-- What a word is decoded to, plainly. -/
def decP (x : Int) : Int × Int × Int × Int × Int × Int :=
  if x / 67108864 < 1 ∨ 43 < x / 67108864 then (0, 0, 0, 0, 0, 2)
  else if x / 67108864 ≤ 23 then if x % 2048 = 0 then (x / 67108864, fD x, fA x, fB x, 0, 0) else bad3
  else if x / 67108864 ≤ 30 then if x % 65536 = 0 then (x / 67108864, fD x, fA x, 0, 0, 0) else bad3
  else if x / 67108864 = 31 then (x / 67108864, fD x, fA x, 0, fS x, 0)
  else if x / 67108864 = 33 ∨ x / 67108864 = 40 then if fA x = 0 then (x / 67108864, fD x, 0, 0, fLo x, 0) else bad3
  else if x / 67108864 < 39 then (x / 67108864, fD x, fA x, 0, fLo x, 0)
  else if x / 67108864 = 39 then if fD x = 0 ∧ fA x = 0 then (x / 67108864, 0, 0, 0, fLo x, 0) else bad3
  else if x / 67108864 = 41 then if fD x = 0 ∧ x % 65536 = 0 then (x / 67108864, 0, fA x, 0, 0, 0) else bad3
  else if x % 67108864 = 0 then (x / 67108864, 0, 0, 0, 0, 0) else bad3

theorem ltrs (op : Int) (c0 c1 c2 c3 : UInt8) (h : shp op = ⟨#[c0, c1, c2, c3]⟩) : ltr op 0 = c0.toNat ∧ ltr op 1 = c1.toNat ∧ ltr op 2 = c2.toNat ∧ ltr op 3 = c3.toNat := by
  unfold ltr
  rw [h]
  exact ⟨rfl, rfl, rfl, rfl⟩
theorem fv_none (y : Int) : fv 45 y = 0 := rfl
theorem fv_plain {c y : Int} (h1 : c ≠ 45) (h2 : c ≠ 115) : fv c y = y := by unfold fv; rw [if_neg (by simp [h1]), if_neg (by simp [h2])]
theorem fv_s (y : Int) (h0 : 0 ≤ y) (h : y < 65536) : fv 115 y = if y ≥ 32768 then y - 65536 else y := by
  unfold fv
  rw [if_neg (by decide), if_pos (by decide)]
  have e : IntKind.i16.wrap y = (y + 32768) % 65536 - 32768 := by
    simp [IntKind.wrap, IntKind.bits, IntKind.signed]
    split <;> omega
  rw [e]
  unfold wrap64
  split <;> omega
theorem raw0 (x : Int) (h0 : 0 ≤ x) (hx : x < 4294967296) : wrap64 (bits .and .u32 (x / 2097152) 31) = fD x := by
  rw [and_31 _ (by omega) (by omega)]; unfold fD; exact wrap64_small _ (by omega) (by omega)
theorem raw1 (x : Int) (h0 : 0 ≤ x) (hx : x < 4294967296) : wrap64 (bits .and .u32 (x / 65536) 31) = fA x := by
  rw [and_31 _ (by omega) (by omega)]; unfold fA; exact wrap64_small _ (by omega) (by omega)
theorem raw2 (x : Int) (h0 : 0 ≤ x) (hx : x < 4294967296) : wrap64 (bits .and .u32 (x / 2048) 31) = fB x := by
  rw [and_31 _ (by omega) (by omega)]; unfold fB; exact wrap64_small _ (by omega) (by omega)
theorem raw3 (x : Int) (h0 : 0 ≤ x) (hx : x < 4294967296) : wrap64 (bits .and .u32 x 65535) = fLo x := by
  rw [and_65535 _ h0 hx]; unfold fLo; exact wrap64_small _ (by omega) (by omega)
/-- The sum of parts in their bounds. -/
theorem encTo_sum (op d a b n : Int) (ho : 0 ≤ op) (ho2 : op < 64) (hd : 0 ≤ d) (hd2 : d < 32) (ha : 0 ≤ a) (ha2 : a < 32) (hb : 0 ≤ b) (hb2 : b < 32) (hn : -32768 ≤ n) (hn2 : n < 65536) (hbn : b = 0 ∨ n = 0) :
    encTo op d a b n 4 = op * 67108864 + d * 2097152 + a * 65536 + b * 2048 + n % 65536 := by
  have e0 : encTo op d a b n 1 = op * 67108864 + d * 2097152 := by
    show bits .or .u32 (op * 67108864) (bits .and .u32 (d % 4294967296) 31 * 2097152 % 4294967296) = _
    rw [and_31 _ (by omega) (by omega)]
    rw [show d % 4294967296 % 32 * 2097152 % 4294967296 = d * 2097152 by omega]
    exact or_sum _ _ 26 (by omega) (by omega) (by omega) (Int.dvd_mul_left _ _) (by omega) (by omega)
  have e1 : encTo op d a b n 2 = op * 67108864 + d * 2097152 + a * 65536 := by
    show bits .or .u32 (encTo op d a b n 1) (bits .and .u32 (a % 4294967296) 31 * 65536 % 4294967296) = _
    rw [and_31 _ (by omega) (by omega), e0]
    rw [show a % 4294967296 % 32 * 65536 % 4294967296 = a * 65536 by omega]
    exact or_sum _ _ 21 (by omega) (by omega) (by omega) ⟨op * 32 + d, by omega⟩ (by omega) (by omega)
  have e2 : encTo op d a b n 3 = op * 67108864 + d * 2097152 + a * 65536 + b * 2048 := by
    show bits .or .u32 (encTo op d a b n 2) (bits .and .u32 (b % 4294967296) 31 * 2048 % 4294967296) = _
    rw [and_31 _ (by omega) (by omega), e1]
    rw [show b % 4294967296 % 32 * 2048 % 4294967296 = b * 2048 by omega]
    exact or_sum _ _ 16 (by omega) (by omega) (by omega) ⟨op * 1024 + d * 32 + a, by omega⟩ (by omega) (by omega)
  show bits .or .u32 (encTo op d a b n 3) (bits .and .u32 (n % 4294967296) 65535 % 4294967296) = _
  rw [and_65535 _ (by omega) (by omega), e2]
  rcases hbn with rfl | rfl
  · rw [show n % 4294967296 % 65536 % 4294967296 = n % 65536 by omega]
    exact or_sum _ _ 16 (by omega) (by omega) (by omega) ⟨op * 1024 + d * 32 + a, by omega⟩ (by omega) (by omega)
  · rw [show (0 : Int) % 4294967296 % 65536 % 4294967296 = 0 by omega]
    exact or_sum _ _ 0 (by omega) (by omega) (by omega) (Int.one_dvd _) (by omega) (by omega)
theorem chk_zero {op d a b n : Int} (h1 : 1 ≤ op) (h2 : op ≤ 43) (hd : bLo (ltr op 0) ≤ d ∧ d ≤ bHi (ltr op 0)) (ha : bLo (ltr op 1) ≤ a ∧ a ≤ bHi (ltr op 1)) (hb : bLo (ltr op 2) ≤ b ∧ b ≤ bHi (ltr op 2)) (hn : bLo (ltr op 3) ≤ n ∧ n ≤ bHi (ltr op 3)) : chk op d a b n = 0 := by
  have z : ∀ c m : Int, (bLo c ≤ m ∧ m ≤ bHi c) → chkAt c m = 0 := fun c m h => by unfold chkAt; rw [if_neg (by omega)]
  exact chk_ok h1 h2 ⟨z _ _ hd, z _ _ ha, z _ _ hb, z _ _ hn⟩

/-- Where the letters are known: what a word is decoded to. -/
theorem dec_by (x : Int) (h0 : 0 ≤ x) (hx : x < 4294967296) (c0 c1 c2 c3 : UInt8) (h1 : 1 ≤ x / 67108864) (h2 : x / 67108864 ≤ 43) (h : shp (x / 67108864) = ⟨#[c0, c1, c2, c3]⟩) (f0 f1 f2 f3 : Int)
    (e0 : fv c0.toNat (fD x) = f0) (e1 : fv c1.toNat (fA x) = f1) (e2 : fv c2.toNat (fB x) = f2) (e3 : fv c3.toNat (fLo x) = f3)
    (b0 : bLo c0.toNat ≤ f0 ∧ f0 ≤ bHi c0.toNat) (b1 : bLo c1.toNat ≤ f1 ∧ f1 ≤ bHi c1.toNat) (b2 : bLo c2.toNat ≤ f2 ∧ f2 ≤ bHi c2.toNat) (b3 : bLo c3.toNat ≤ f3 ∧ f3 ≤ bHi c3.toNat)
    (r0 : 0 ≤ f0 ∧ f0 < 32) (r1 : 0 ≤ f1 ∧ f1 < 32) (r2 : 0 ≤ f2 ∧ f2 < 32) (r3 : -32768 ≤ f3 ∧ f3 < 65536) (hbn : f2 = 0 ∨ f3 = 0) :
    dec x = if x / 67108864 * 67108864 + f0 * 2097152 + f1 * 65536 + f2 * 2048 + f3 % 65536 = x then (x / 67108864, f0, f1, f2, f3, 0) else bad3 := by
  obtain ⟨l0, l1, l2, l3⟩ := ltrs _ _ _ _ _ h
  have d0 : dFld x 0 = f0 := by show fv (ltr (x / 67108864) 0) _ = _; rw [l0, raw0 x h0 hx, e0]
  have d1 : dFld x 1 = f1 := by show fv (ltr (x / 67108864) 1) _ = _; rw [l1, raw1 x h0 hx, e1]
  have d2 : dFld x 2 = f2 := by show fv (ltr (x / 67108864) 2) _ = _; rw [l2, raw2 x h0 hx, e2]
  have d3 : dFld x 3 = f3 := by show fv (ltr (x / 67108864) 3) _ = _; rw [l3, raw3 x h0 hx, e3]
  unfold dec decOk bad3
  rw [if_neg (by omega), d0, d1, d2, d3, chk_zero h1 h2 (by rw [l0]; exact b0) (by rw [l1]; exact b1) (by rw [l2]; exact b2) (by rw [l3]; exact b3), encTo_sum _ _ _ _ _ (by omega) (by omega) r0.1 r0.2 r1.1 r1.2 r2.1 r2.2 r3.1 r3.2 hbn]
  simp
theorem dec_eq (x : Int) (h0 : 0 ≤ x) (hx : x < 4294967296) : dec x = decP x := by
  have hD : 0 ≤ fD x ∧ fD x < 32 := by unfold fD; omega
  have hA : 0 ≤ fA x ∧ fA x < 32 := by unfold fA; omega
  have hB : 0 ≤ fB x ∧ fB x < 32 := by unfold fB; omega
  have hL : 0 ≤ fLo x ∧ fLo x < 65536 := by unfold fLo; omega
  have hS : -32768 ≤ fS x ∧ fS x < 32768 ∧ fS x % 65536 = fLo x := by unfold fS fLo; split <;> omega
  have hX : x = x / 67108864 * 67108864 + fD x * 2097152 + fA x * 65536 + fLo x := by unfold fD fA fLo; omega
  have hLo : fLo x = fB x * 2048 + x % 2048 := by unfold fLo fB; omega
  have hLo2 : fLo x = x % 65536 := rfl
  have fz : ∀ y, fv ((45 : UInt8).toNat : Int) y = 0 := fun y => fv_none y
  have fd : ∀ y, fv ((100 : UInt8).toNat : Int) y = y := fun y => fv_plain (by decide) (by decide)
  have fa : ∀ y, fv ((97 : UInt8).toNat : Int) y = y := fun y => fv_plain (by decide) (by decide)
  have fb : ∀ y, fv ((98 : UInt8).toNat : Int) y = y := fun y => fv_plain (by decide) (by decide)
  have fu : ∀ y, fv ((117 : UInt8).toNat : Int) y = y := fun y => fv_plain (by decide) (by decide)
  have z0 : bLo ((45 : UInt8).toNat : Int) ≤ 0 ∧ 0 ≤ bHi ((45 : UInt8).toNat : Int) := by decide
  have zr : ∀ y : Int, 0 ≤ y ∧ y < 32 → bLo ((100 : UInt8).toNat : Int) ≤ y ∧ y ≤ bHi ((100 : UInt8).toNat : Int) := fun y h => by
    have e1 : bLo ((100 : UInt8).toNat : Int) = 0 := by decide
    have e2 : bHi ((100 : UInt8).toNat : Int) = 31 := by decide
    omega
  have zra : ∀ y : Int, 0 ≤ y ∧ y < 32 → bLo ((97 : UInt8).toNat : Int) ≤ y ∧ y ≤ bHi ((97 : UInt8).toNat : Int) := fun y h => by
    have e1 : bLo ((97 : UInt8).toNat : Int) = 0 := by decide
    have e2 : bHi ((97 : UInt8).toNat : Int) = 31 := by decide
    omega
  have zrb : ∀ y : Int, 0 ≤ y ∧ y < 32 → bLo ((98 : UInt8).toNat : Int) ≤ y ∧ y ≤ bHi ((98 : UInt8).toNat : Int) := fun y h => by
    have e1 : bLo ((98 : UInt8).toNat : Int) = 0 := by decide
    have e2 : bHi ((98 : UInt8).toNat : Int) = 31 := by decide
    omega
  have zu : ∀ y : Int, 0 ≤ y ∧ y < 65536 → bLo ((117 : UInt8).toNat : Int) ≤ y ∧ y ≤ bHi ((117 : UInt8).toNat : Int) := fun y h => by
    have e1 : bLo ((117 : UInt8).toNat : Int) = 0 := by decide
    have e2 : bHi ((117 : UInt8).toNat : Int) = 65535 := by decide
    omega
  have zs : bLo ((115 : UInt8).toNat : Int) ≤ fS x ∧ fS x ≤ bHi ((115 : UInt8).toNat : Int) := by
    have e1 : bLo ((115 : UInt8).toNat : Int) = -32768 := by decide
    have e2 : bHi ((115 : UInt8).toNat : Int) = 32767 := by decide
    omega
  have iff3 : ∀ {p q : Prop} [Decidable p] [Decidable q] {a b : Int × Int × Int × Int × Int × Int}, (p ↔ q) → (if p then a else b) = (if q then a else b) := fun {p q} _ _ {a b} h => by
    by_cases hp : p
    · rw [if_pos hp, if_pos (h.1 hp)]
    · rw [if_neg hp, if_neg (fun k => hp (h.2 k))]
  unfold decP
  by_cases g : x / 67108864 < 1 ∨ 43 < x / 67108864
  · rw [if_pos g]; unfold dec; rw [if_pos g]
  have h1 : 1 ≤ x / 67108864 := by omega
  have h2 : x / 67108864 ≤ 43 := by omega
  rw [if_neg g]
  by_cases g1 : x / 67108864 ≤ 23
  · rw [if_pos g1, dec_by x h0 hx 100 97 98 45 h1 h2 (by unfold shp; rw [if_neg g, if_pos g1]) _ _ _ _ (fd _) (fa _) (fb _) (fz _) (zr _ hD) (zra _ hA) (zrb _ hB) z0 hD hA hB (by omega) (.inr rfl)]
    exact iff3 (by omega)
  rw [if_neg g1]
  by_cases g2 : x / 67108864 ≤ 30
  · rw [if_pos g2, dec_by x h0 hx 100 97 45 45 h1 h2 (by unfold shp; rw [if_neg g, if_neg g1, if_pos g2]) _ _ _ _ (fd _) (fa _) (fz _) (fz _) (zr _ hD) (zra _ hA) z0 z0 hD hA (by omega) (by omega) (.inl rfl)]
    exact iff3 (by omega)
  rw [if_neg g2]
  by_cases g3 : x / 67108864 = 31
  · rw [if_pos g3, dec_by x h0 hx 100 97 45 115 h1 h2 (by unfold shp; rw [if_neg g, if_neg g1, if_neg g2, if_pos g3]) _ _ _ (fS x) (fd _) (fa _) (fz _) ((fv_s _ hL.1 hL.2).trans rfl) (zr _ hD) (zra _ hA) z0 zs hD hA (by omega) (by omega) (.inl rfl)]
    rw [if_pos (by omega)]
  rw [if_neg g3]
  by_cases g4 : x / 67108864 = 33 ∨ x / 67108864 = 40
  · rw [if_pos g4, dec_by x h0 hx 100 45 45 117 h1 h2 (by unfold shp; rw [if_neg g, if_neg g1, if_neg g2, if_neg g3, if_pos g4]) _ _ _ _ (fd _) (fz _) (fz _) (fu _) (zr _ hD) z0 z0 (zu _ hL) hD (by omega) (by omega) (by omega) (.inl rfl)]
    exact iff3 (by omega)
  rw [if_neg g4]
  by_cases g5 : x / 67108864 < 39
  · rw [if_pos g5, dec_by x h0 hx 100 97 45 117 h1 h2 (by unfold shp; rw [if_neg g, if_neg g1, if_neg g2, if_neg g3, if_neg g4, if_pos g5]) _ _ _ _ (fd _) (fa _) (fz _) (fu _) (zr _ hD) (zra _ hA) z0 (zu _ hL) hD hA (by omega) (by omega) (.inl rfl)]
    rw [if_pos (by omega)]
  rw [if_neg g5]
  by_cases g6 : x / 67108864 = 39
  · rw [if_pos g6, dec_by x h0 hx 45 45 45 117 h1 h2 (by unfold shp; rw [if_neg g, if_neg g1, if_neg g2, if_neg g3, if_neg g4, if_neg g5, if_pos g6]) _ _ _ _ (fz _) (fz _) (fz _) (fu _) z0 z0 z0 (zu _ hL) (by omega) (by omega) (by omega) (by omega) (.inl rfl)]
    exact iff3 (by omega)
  rw [if_neg g6]
  by_cases g7 : x / 67108864 = 41
  · rw [if_pos g7, dec_by x h0 hx 45 97 45 45 h1 h2 (by unfold shp; rw [if_neg g, if_neg g1, if_neg g2, if_neg g3, if_neg g4, if_neg g5, if_neg g6, if_pos g7]) _ _ _ _ (fz _) (fa _) (fz _) (fz _) z0 (zra _ hA) z0 z0 (by omega) hA (by omega) (by omega) (.inl rfl)]
    exact iff3 (by omega)
  rw [if_neg g7]
  rw [dec_by x h0 hx 45 45 45 45 h1 h2 (by unfold shp; rw [if_neg g, if_neg g1, if_neg g2, if_neg g3, if_neg g4, if_neg g5, if_neg g6, if_neg g7]) _ _ _ _ (fz _) (fz _) (fz _) (fz _) z0 z0 z0 z0 (by omega) (by omega) (by omega) (by omega) (.inl rfl)]
  exact iff3 (by omega)
end Go.Proofs.Ytbcmckfceeakhaa.Gv
end

section
set_option linter.unusedVariables false
set_option linter.unusedSimpArgs false
namespace Go.Proofs.Ytbcmckfceeakhaa.Gv
open Go.RowKit Go.Proofs.YtbcmckfceeakhaaW.PrintWords Go.Proofs.Ytbcmckfceeakhaa.GB Go.Sort Go.Proofs

theorem own_of_int {e : Nat} {w : World} {base : Nat} {ok : Nat → Prop} {v : Value} {xs : List Int} (h : (Kd.int .i64).R e w base ok v xs) : w.ownsRow base e 1 v xs.length (xs.map (Value.int .i64)) := Kd.own_of_R h
/-- A row of the call's own, written anew from its head on, and cut. -/
theorem own_put {w w' : World} {base e g n cap m : Nat} {xs : List Value} {d : Array Int} (h : w.ownsRow base e 1 (.slice (some ⟨g, 0, none⟩) n cap) n xs) (hd : d.size ≤ n) (hm : m ≤ d.size)
    (hw : ∀ cur fr, w.heap[g]? = some (.cells cur e fr) → w'.heap[g]? = some (.cells (putCells (Value.int .i64) 0 d cur) e fr)) :
    w'.ownsRow base e 1 (.slice (some ⟨g, 0, none⟩) m cap) m ((d.toList.take m).map (Value.int .i64)) := by
  obtain ⟨h1, h2⟩ := h
  rcases h2 with ⟨h2, _⟩ | ⟨g', cap', cur, hv, hg, hh, h3, h4, h5, h6⟩
  · cases h2
  · injection hv with hv1 hv2 hv3
    injection hv1 with hv1
    injection hv1 with hv1
    subst hv1
    subst hv3
    refine ⟨by simp; omega, .inr ⟨g, cap, _, rfl, hg, hw cur _ hh, by omega, h4, by simp [putCells, h5], ?_⟩⟩
    apply List.ext_getElem?
    intro j
    by_cases hj : j < m
    · rw [List.getElem?_take_of_lt (by omega), Array.getElem?_toList]
      simp [putCells, List.getElem?_take_of_lt hj, show j < cur.size by omega, show j < d.size by omega]
    · rw [List.getElem?_take_eq_none (by omega), List.getElem?_eq_none (by simp; omega)]

theorem next1_any (A : Option Addr) (len cap : Nat) (x : Int) (B : Nat) (W : World) (hc : W.cell? ⟨B, 0, none⟩ = some (.slice A len cap)) :
    Calls Try.prog 59 #[.int .i64 x, .pointer (some ⟨B, 0, none⟩)] W fun e w' => e = .returned (.bool (decide ((len : Int) ≤ x))) ∧ W = w' := by
  go_enter Try.func59, Try.ntmps59
  go_wp2
  go_ret
  exact ⟨rfl, rfl⟩
theorem next1_at (A : Option Addr) (len cap : Nat) (B : Nat) (w : World) (hc : w.cell? ⟨B, 0, none⟩ = some (.slice A len cap)) : PredAt Try.prog 59 #[.pointer (some ⟨B, 0, none⟩)] (Value.int .i64) (fun x => decide ((len : Int) ≤ x)) w :=
  fun W x hb => (next1_any A len cap x B W ((hb.cell (p := ⟨B, 0, none⟩) (World.block_lt_of_cell? w _ hc)).trans hc)).mono fun _ _ ⟨h1, h2⟩ => ⟨h1, 0, h2.symm⟩
theorem next1_over (A : Option Addr) (len cap : Nat) (B blk off size : Nat) (w : World) (hne : B ≠ blk) (hc : w.cell? ⟨B, 0, none⟩ = some (.slice A len cap)) :
    PredOver Try.prog 59 #[.pointer (some ⟨B, 0, none⟩)] (Value.int .i64) (fun x => decide ((len : Int) ≤ x)) blk off size w :=
  fun n os dk x _ => (next1_any A len cap x B _ (by
    unfold sortWorld
    rw [cell?_grow _ _ _ (by show B < (putRow _ _ _ _ _).heap.size; rw [Sort.size_putRow]; exact World.block_lt_of_cell? w _ hc), cell?_putRow_other _ _ blk off _ _ (Or.inl hne)]
    exact hc)).mono fun _ _ ⟨h1, h2⟩ => ⟨h1, 0, h2.symm⟩

theorem delete_nil (fv : Value) (w : World) : Calls Try.prog 57 #[.slice none 0 0, fv] w fun e w' => e = .returned (.slice none 0 0) ∧ w = w' := by
  go_enter Try.func57, Try.ntmps57
  go_wp2_with (first | (go_at_call 81; refine (Try.slices_IndexFunc_empty (α := Int) none 0 fv _).mono ?_; rintro e w' ⟨rfl, rfl⟩))
  go_ret
  exact ⟨rfl, rfl⟩

/-- The row that a slice value owns: nil and nothing, or a block of its own. -/
theorem own_cases {w : World} {base e n : Nat} {v : Value} {xs : List Int} (h : w.ownsRow base e 1 v n (xs.map (Value.int .i64))) : xs.length = n ∧ ((v = .slice none 0 0 ∧ n = 0 ∧ xs = []) ∨ ∃ g cap, v = .slice (some ⟨g, 0, none⟩) n cap ∧ base ≤ g ∧ g < w.heap.size ∧ n ≤ cap ∧ Holds (Value.int .i64) w g 0 xs.toArray) := by
  have hl : xs.length = n := by simpa using h.1
  refine ⟨hl, ?_⟩
  rcases h.2 with ⟨h2, h3⟩ | ⟨g, cap, cur, hv, hg, hh, h3, h4, h5, h6⟩
  · exact .inl ⟨h2, h3, List.eq_nil_of_length_eq_zero (by omega)⟩
  · refine .inr ⟨g, cap, hv, hg, blk_lt hh, h3, holds_of_blockI hh ?_⟩
    rw [hl, ← h6, Nat.mul_one]
theorem putRow_grown (w : World) (q g : Nat) (d : Array Int) : w.grownBy (putRow (Value.int .i64) (Sort.ahead w q) g 0 d) (some g) := by
  have := grownBy_sortedI (w := w) (g := g) (n := q) (os := #[]) d
  rwa [grow_empty] at this
theorem putRow_heap {w : World} {q g e : Nat} {fr : Nat × Nat} {cur : Array Value} (d : Array Int) (h : w.heap[g]? = some (.cells cur e fr)) : (putRow (Value.int .i64) (Sort.ahead w q) g 0 d).heap[g]? = some (.cells (putCells (Value.int .i64) 0 d cur) e fr) := by
  have := heap_sortedI (w := w) (g := g) (n := q) (os := #[]) d h
  rwa [grow_empty] at this
theorem take_left (F : List Int) (m : Nat) : ((F ++ List.replicate m 0).toArray.toList.take F.length) = F := by simp

/-- slices.DeleteFunc, on a row of the call's own: those that are below len stay. -/
theorem delete_own (A : Option Addr) (len cap0 B : Nat) (w : World) (base g n cap : Nat) (xs : List Int) (hn : n ≤ 1000000)
    (h : w.ownsRow base 3 1 (.slice (some ⟨g, 0, none⟩) n cap) n (xs.map (Value.int .i64))) (hB : B ≠ g) (hc : w.cell? ⟨B, 0, none⟩ = some (.slice A len cap0)) :
    Calls Try.prog 57 #[.slice (some ⟨g, 0, none⟩) n cap, .func (.func 59) #[] #[.pointer (some ⟨B, 0, none⟩)]] w fun e w' =>
      e = .returned (.slice (some ⟨g, 0, none⟩) (xs.filter fun x => !decide ((len : Int) ≤ x)).length cap) ∧
      w'.ownsRow base 3 1 (.slice (some ⟨g, 0, none⟩) (xs.filter fun x => !decide ((len : Int) ≤ x)).length cap) (xs.filter fun x => !decide ((len : Int) ≤ x)).length ((xs.filter fun x => !decide ((len : Int) ≤ x)).map (Value.int .i64)) ∧ w.grownBy w' (some g) := by
  obtain ⟨hl, h2⟩ := own_cases h
  rcases h2 with ⟨hv, _⟩ | ⟨g', cap', hv, hg, hgl, hcap, hH⟩
  · cases hv
  injection hv with hv1 _ hv3
  injection hv1 with hv1
  injection hv1 with hv1
  subst hv1
  subst hv3
  have eg : ∀ args w, (callFunc 59 args).run Try.prog w = .ok (.enter 59 args) w := enters_of Try.func59 (by kernel_rfl) rfl
  have hD := Try.slices_DeleteFunc (Value.int .i64) (fun _ => rfl) (fun x => decide ((len : Int) ≤ x)) 59 #[.pointer (some ⟨B, 0, none⟩)] eg 0 Try.zeroValue3 g 0 cap xs.toArray w
    (next1_at A len cap0 B w hc) (next1_over A len cap0 B g 0 _ w hB hc) hH (by rw [List.size_toArray]; omega) (by rw [List.size_toArray]; omega)
  rw [List.size_toArray, hl] at hD
  refine hD.mono ?_
  rintro e w' ⟨rfl, q, rfl⟩
  have hle : (xs.filter fun x => !decide ((len : Int) ≤ x)).length ≤ n := hl ▸ List.length_filter_le _ _
  refine ⟨rfl, ?_, putRow_grown _ _ _ _⟩
  have := own_put (m := (xs.filter fun x => !decide ((len : Int) ≤ x)).length) (d := ((xs.filter fun x => !decide ((len : Int) ≤ x)) ++ List.replicate (n - (xs.filter fun x => !decide ((len : Int) ≤ x)).length) 0).toArray) h (by simp; omega) (by simp) (fun cur fr hb => putRow_heap (q := q) _ hb)
  rw [take_left] at this
  exact this
/-- slices.Sort, on a row of the call's own. -/
theorem sort_own (w : World) (base n : Nat) (v : Value) (xs : List Int) (hn : n < 4611686018427387904) (h : w.ownsRow base 3 1 v n (xs.map (Value.int .i64))) :
    Calls Try.prog 60 #[v] w fun e w' => e = .returned (.tuple #[]) ∧ w'.ownsRow base 3 1 v n ((xs.mergeSort fun x y => decide (x ≤ y)).map (Value.int .i64)) ∧ w.grownBy w' v.ownBlock := by
  obtain ⟨hl, h2⟩ := own_cases h
  rcases h2 with ⟨rfl, rfl, rfl⟩ | ⟨g, cap, rfl, hg, hgl, hcap, hH⟩
  · refine (Try.slices_Sort_int_none none 0 w).mono ?_
    rintro e w' ⟨rfl, rfl⟩
    exact ⟨rfl, by simpa using h, grown_of_below (Below.refl _ _) _⟩
  · have hS := Try.slices_Sort_int g 0 cap xs w hH hgl (by omega)
    rw [hl] at hS
    refine hS.mono ?_
    rintro e w' ⟨rfl, q, os, rfl⟩
    refine ⟨rfl, ?_, grownBy_sortedI _⟩
    have := own_put (m := n) (d := (xs.mergeSort fun x y => decide (x ≤ y)).toArray) h (by simp; omega) (by simp; omega) (fun cur fr hb => heap_sortedI (n := q) (os := os) _ hb)
    rw [List.take_of_length_le (by simp; omega)] at this
    exact this
/-- slices.Compact, on a row of the call's own. -/
theorem compact_own (w : World) (base n : Nat) (v : Value) (xs : List Int) (hn : n < 4611686018427387904) (h : w.ownsRow base 3 1 v n (xs.map (Value.int .i64))) :
    Calls Try.prog 61 #[v] w fun e w' => ∃ v', e = .returned v' ∧ w'.ownsRow base 3 1 v' (Lib.compact xs).length ((Lib.compact xs).map (Value.int .i64)) ∧ w.grownBy w' v.ownBlock := by
  obtain ⟨hl, h2⟩ := own_cases h
  rcases h2 with ⟨rfl, rfl, rfl⟩ | ⟨g, cap, rfl, hg, hgl, hcap, hH⟩
  · refine (Try.slices_Compact_int_empty none 0 w).mono ?_
    rintro e w' ⟨rfl, rfl⟩
    have e : Lib.compact ([] : List Int) = [] := rfl
    exact ⟨_, rfl, by rw [e]; exact h, grown_of_below (Below.refl _ _) _⟩
  · have hS := Try.slices_Compact_int g 0 cap xs w hH (by omega) (by omega)
    rw [hl] at hS
    refine hS.mono ?_
    rintro e w' ⟨rfl, q, rfl⟩
    have hle : (Lib.compact xs).length ≤ n := by rw [← hl]; exact Lib.compact_length_le xs
    refine ⟨_, rfl, ?_, putRow_grown _ _ _ _⟩
    have := own_put (m := (Lib.compact xs).length) (d := (Lib.compact xs ++ List.replicate (n - (Lib.compact xs).length) 0).toArray) h (by simp; omega) (by simp) (fun cur fr hb => putRow_heap (q := q) _ hb)
    rw [take_left] at this
    exact this

/-- Where an instruction goes on, places that the code has not, too. -/
def raws (op n pc : Int) : List Int :=
  if op = 0 ∨ op = 41 ∨ op = 43 then [] else if op = 39 ∨ op = 40 then [n] else if op = 36 ∨ op = 37 ∨ op = 38 then [n, pc + 1] else [pc + 1]
theorem raws_f (op d a b n pc : Int) (h0 : 0 ≤ pc) (h1 : pc ≤ 1000000) : graph_goes.f 3 op d a b n pc = some (raws op n pc) := by
  have hw : wrap64 (pc + 1) = pc + 1 := by unfold wrap64; omega
  unfold graph_goes.f raws
  simp only [graph_goes.j0, graph_goes.j1, hw]
  by_cases e0 : op = 0
  · subst e0; rfl
  by_cases e1 : op = 41
  · subst e1; rfl
  by_cases e2 : op = 43
  · subst e2; rfl
  by_cases e3 : op = 39
  · subst e3; rfl
  by_cases e4 : op = 40
  · subst e4; rfl
  by_cases e5 : op = 36
  · subst e5; rfl
  by_cases e6 : op = 37
  · subst e6; rfl
  by_cases e7 : op = 38
  · subst e7; rfl
  simp [e0, e1, e2, e3, e4, e5, e6, e7]
/-- Where a place of code goes on: the places themselves, rising, each once. -/
def nexts (n : Nat) (op k pc : Int) : List Int := Lib.compact (((raws op k pc).filter fun x => !decide ((n : Int) ≤ x)).mergeSort fun x y => decide (x ≤ y))

set_option maxHeartbeats 1000000 in
theorem next_out (A : Option Addr) (len cap : Nat) (pc : Int) (w : World) (h : pc < 0 ∨ (len : Int) ≤ pc) :
    Calls Try.prog 20 #[.slice A len cap, .int .i64 pc] w fun e w' => e = .returned (.slice none 0 0) ∧ Below w.heap.size w w' := by
  by_cases hp : pc < 0
  · go_enter Try.func20, Try.ntmps20
    go_wp2
    go_ret
    exact ⟨rfl, by repeat (first | exact Below.refl _ _ | apply below_alloc | apply pw_below_drewN)⟩
  · have hl : (len : Int) ≤ pc := by omega
    go_enter Try.func20, Try.ntmps20
    go_wp2
    go_ret
    exact ⟨rfl, by repeat (first | exact Below.refl _ _ | apply below_alloc | apply pw_below_drewN)⟩
theorem below_row {B : Nat} {a w w' : World} {v : Value} {base e n : Nat} {xs : List Value} (h : Below B a w) (hg : w.grownBy w' v.ownBlock) (ho : w.ownsRow base e 1 v n xs) (hB : B ≤ base) (hs : B ≤ w.heap.size) : Below B a w' :=
  h.grown hg hs fun k hk => Nat.le_trans hB (own_base ho k hk)
theorem raws_len (op n pc : Int) : (raws op n pc).length ≤ 2 := by
  unfold raws
  repeat' split
  all_goals simp
set_option maxHeartbeats 4000000 in
theorem next_in (ad : Addr) (len cap : Nat) (pc : Nat) (x : Int) (w : World) (h : pc < len) (hl : len ≤ 64) (h0 : 0 ≤ x) (hx : x < 4294967296) (hc : w.cell? (ad.add pc) = some (.int .u32 x)) :
    Calls Try.prog 20 #[.slice (some ad) len cap, .int .i64 pc] w fun e w' => ∃ v, e = .returned v ∧ w'.ownsRow w.heap.size 3 1 v (nexts len (dec x).1 (dec x).2.2.2.2.1 pc).length ((nexts len (dec x).1 (dec x).2.2.2.2.1 pc).map (Value.int .i64)) ∧ Below w.heap.size w w' := by
  have hcb : ∀ W, Below w.heap.size w W → W.cell? (ad.add pc) = some (.int .u32 x) := fun W hb => pw_cell_below hb hc
  have hc1 : ∀ o, (w.alloc o).cell? (ad.add pc) = some (.int .u32 x) := fun o => hcb _ (below_alloc (Below.refl _ _) _)
  clear hcb hc
  go_enter Try.func20, Try.ntmps20
  go_wp2_with (first | (go_at_call 56; refine (dec_any _ h0 hx _).mono ?_; rintro e w1 ⟨rfl, hb1⟩))
  have hz1 := hb1.size
  rw [World.size_alloc] at hz1
  have HB1 : Below w.heap.size w w1 := (below_alloc (Below.refl _ _) _).trans (hb1.mono (by simp))
  have hbox1 : w1.cell? ⟨w.heap.size, 0, none⟩ = some (.slice (some ad) len cap) := (hb1.cell (p := ⟨w.heap.size, 0, none⟩) (by simp)).trans (blk_cell (blk_new w _) 0)
  refine (graph_goes.calls 3 _ _ _ _ _ _ _ _ (raws_f _ _ _ _ _ _ (by omega) (by omega))).mono ?_
  rintro e w2 ⟨v, rfl, ho, hb2⟩
  have hz2 := hb2.size
  rw [World.size_alloc] at hz2
  have HB2 : Below w.heap.size w w2 := HB1.trans ((below_alloc (Below.refl w1.heap.size w1) _).trans (hb2.mono (by simp)) |>.mono HB1.size)
  have hbox2 : w2.cell? ⟨w.heap.size, 0, none⟩ = some (.slice (some ad) len cap) := by
    have h1 := (below_alloc (Below.refl w1.heap.size w1) (.cells #[.int .i64 (dec x).1, .int .i64 (dec x).2.1, .int .i64 (dec x).2.2.1, .int .i64 (dec x).2.2.2.1, .int .i64 (dec x).2.2.2.2.1] 52)).trans (hb2.mono (by simp))
    exact (h1.cell (p := ⟨w.heap.size, 0, none⟩) (by show w.heap.size < w1.heap.size; omega)).trans hbox1
  have hown := own_of_int ho
  rw [World.size_alloc] at hown
  have hR := raws_len (dec x).1 (dec x).2.2.2.2.1 pc
  have HN : Hid (nexts len (dec x).1 (dec x).2.2.2.2.1 pc = Lib.compact (((raws (dec x).1 (dec x).2.2.2.2.1 pc).filter fun x => !decide ((len : Int) ≤ x)).mergeSort fun x y => decide (x ≤ y))) := rfl
  clear ho hb2 hb1 hc1
  generalize raws (dec x).1 (dec x).2.2.2.2.1 pc = R at *
  obtain ⟨hRl, hcs⟩ := own_cases hown
  rcases hcs with ⟨rfl, hR0, rfl⟩ | ⟨g, c, rfl, hg, hgl, hcap, _⟩
  · have HN2 : Hid (nexts len (dec x).1 (dec x).2.2.2.2.1 pc = []) := HN.out.trans (by simp; rfl)
    clear HN
    clear hbox1 hbox2
    go_wp2_with (first | (go_at_call 57; refine (delete_nil _ _).mono ?_; rintro e w3 ⟨rfl, rfl⟩) | (go_at_call 60; refine (Try.slices_Sort_int_none none 0 _).mono ?_; rintro e w4 ⟨rfl, rfl⟩) | (go_at_call 61; refine (Try.slices_Compact_int_empty none 0 _).mono ?_; rintro e w5 ⟨rfl, rfl⟩))
    go_ret
    exact ⟨.slice none 0 0, rfl, by rw [HN2.out]; exact own_nil _ _ _ _, HB2⟩
  · have hne : w.heap.size ≠ g := by omega
    have hFl : (R.filter fun x => !decide ((len : Int) ≤ x)).length ≤ 2 := Nat.le_trans (List.length_filter_le _ _) hR
    have HO2 := Aside0.mk hown
    have HD := Aside0.mk (delete_own (some ad) len cap w.heap.size w2 (w1.heap.size + 1) g R.length c R (by omega) hown hne hbox2)
    generalize (R.filter fun x => !decide ((len : Int) ≤ x)) = F at *
    have HN2 : Hid (nexts len (dec x).1 (dec x).2.2.2.2.1 pc = Lib.compact (F.mergeSort fun x y => decide (x ≤ y))) := HN.out
    clear HN hcap hgl hg hne hbox2 hbox1 hown hRl
    go_wp2_with fail
    refine HD.out.mono ?_
    rintro e w3 ⟨rfl, ho3, hg3⟩
    have HB3 := Aside0.mk (below_row HB2 hg3 HO2.out (by omega) (by omega))
    have hz3 := hg3.size
    have HO3 := Aside0.mk ho3
    clear HD HO2 hg3 ho3
    go_wp2_with fail
    refine (sort_own _ _ _ _ _ (by omega) HO3.out).mono ?_
    rintro e w4 ⟨rfl, ho4, hg4⟩
    have HB4 := Aside0.mk (below_row HB3.out hg4 HO3.out (by omega) (by omega))
    have hz4 := hg4.size
    have HO4 := Aside0.mk ho4
    clear HB3 HO3 hg4 ho4
    go_wp2_with fail
    refine (compact_own _ _ _ _ _ (by omega) HO4.out).mono ?_
    rintro e w5 ⟨v, rfl, ho5, hg5⟩
    have HB5 := Aside0.mk (below_row HB4.out hg5 HO4.out (by omega) (by omega))
    have HO5 := Aside0.mk ho5
    clear HB4 HO4 hg5 ho5
    go_wp2_with fail
    go_ret
    exact ⟨v, rfl, by rw [HN2.out]; exact own_weaken HO5.out (by omega), HB5.out⟩

/-- Words that are words, and not too many. -/
def okW (l : List Int) : Prop := l.length ≤ 64 ∧ ∀ x ∈ l, 0 ≤ x ∧ x < 4294967296
noncomputable def nextL (l : List Int) (pc : Int) : List Int := if pc < 0 ∨ (l.length : Int) ≤ pc then [] else nexts l.length (dec (YtbcmckfceeakhaaW.PrintWords.rd l pc)).1 (dec (YtbcmckfceeakhaaW.PrintWords.rd l pc)).2.2.2.2.1 pc
open Classical in
noncomputable def graph_Next.f (l0 : List Int) (a1 : Int) : Option (List Int) := if okW l0 then some (nextL l0 a1) else none
theorem next_own (A0 : Option Addr) (c0 : Nat) (l0 : List Int) (a1 : Int) (w : World) (hr0 : Kd.C (Kd.int .u32) w A0 l0.length l0) (hok : okW l0) :
    Calls Try.prog 20 #[.slice A0 l0.length c0, .int .i64 a1] w fun e w' => ∃ v, e = .returned v ∧ w'.ownsRow w.heap.size 3 1 v (nextL l0 a1).length ((nextL l0 a1).map (Value.int .i64)) ∧ Below w.heap.size w w' := by
  by_cases h : a1 < 0 ∨ (l0.length : Int) ≤ a1
  · have e : nextL l0 a1 = [] := by unfold nextL; rw [if_pos h]
    rw [e]
    refine (next_out A0 l0.length c0 a1 w h).mono ?_
    rintro e w' ⟨rfl, hb⟩
    exact ⟨_, rfl, own_nil _ _ _ _, hb⟩
  · have e : nextL l0 a1 = nexts l0.length (dec (YtbcmckfceeakhaaW.PrintWords.rd l0 a1)).1 (dec (YtbcmckfceeakhaaW.PrintWords.rd l0 a1)).2.2.2.2.1 a1 := by unfold nextL; rw [if_neg h]
    obtain ⟨pc, rfl⟩ : ∃ pc : Nat, a1 = pc := ⟨a1.toNat, by omega⟩
    have hpc : pc < l0.length := by omega
    obtain ⟨ad, rfl, hc⟩ := hr0.2.2 (by omega)
    obtain ⟨c, hs, hr, hcell⟩ := hc pc l0[pc] (List.getElem?_eq_getElem hpc)
    have hrd : YtbcmckfceeakhaaW.PrintWords.rd l0 pc = l0[pc] := by
      show l0.getD ((pc : Int).toNat) 0 = _
      rw [Int.toNat_natCast]
      simp [hpc]
    have hw := hok.2 l0[pc] (List.getElem_mem hpc)
    rw [e, hrd]
    refine next_in ad l0.length c0 pc l0[pc] w hpc hok.1 hw.1 hw.2 ?_
    have hr' : c = [.int .u32 l0[pc]] := hr
    subst hr'
    have := hcell 0 _ rfl
    simpa [Kd.int, Kd.scalar] using this
theorem graph_Next.calls (A0 : Option Addr) (c0 : Nat) (l0 : List Int) (a1 : Int) (r : List Int) (w : World) (hr0 : Kd.C (Kd.int .u32) w A0 l0.length l0) (_hc0 : l0.length ≤ c0) (h : graph_Next.f l0 a1 = some r) :
    Calls Try.prog 20 #[.slice A0 l0.length c0, .int .i64 a1] w fun e w' => ∃ v0_ : Value, e = .returned (v0_) ∧ Kd.R (Kd.int .i64) 3 w' w.heap.size (fun _ => True) v0_ r ∧ Below w.heap.size w w' := by
  unfold graph_Next.f at h
  by_cases hok : okW l0
  · rw [if_pos hok] at h
    obtain rfl := Option.some.inj h
    refine (next_own A0 c0 l0 a1 w hr0 hok).mono ?_
    rintro e w' ⟨v, rfl, ho, hb⟩
    exact ⟨v, rfl, Kd.R_of_own ho (fun _ _ => trivial), hb⟩
  · rw [if_neg hok] at h; cases h
end Go.Proofs.Ytbcmckfceeakhaa.Gv
end

section
set_option linter.unusedVariables false
set_option linter.unusedSimpArgs false
namespace Go.Proofs.Ytbcmckfceeakhaa.Gv
open Go.RowKit Go.Proofs.YtbcmckfceeakhaaW.PrintWords

theorem sort1 (a : Int) : ([a].mergeSort fun x y => decide (x ≤ y)) = [a] := by simp
theorem sort2 (a b : Int) : ([a, b].mergeSort fun x y => decide (x ≤ y)) = if a ≤ b then [a, b] else [b, a] := by
  by_cases h : a ≤ b
  · rw [if_pos h]
    apply List.mergeSort_of_pairwise
    simp [h]
  · rw [if_neg h]
    have hp : ([a, b].mergeSort fun x y => decide (x ≤ y)).Perm [a, b] := List.mergeSort_perm _ _
    have hs := List.pairwise_mergeSort (le := fun x y : Int => decide (x ≤ y)) (fun a b c h1 h2 => by simp at *; omega) (fun a b => by simp; omega) [a, b]
    have hp2 : ([a, b].mergeSort fun x y => decide (x ≤ y)).Perm [b, a] := hp.trans (List.Perm.swap b a [])
    exact hp2.eq_of_pairwise (le := fun x y : Int => decide (x ≤ y)) (fun a b _ _ h1 h2 => by simp at *; omega) hs (by simp; omega)
theorem compact0 : Lib.compact (([] : List Int).mergeSort fun x y => decide (x ≤ y)) = [] := by rw [List.mergeSort_nil]; rfl
theorem compact1 (a : Int) : Lib.compact [a] = [a] := rfl
theorem compact2 (a b : Int) : Lib.compact [a, b] = if a = b then [a] else [a, b] := by
  have e : Lib.compact [a, b] = (([0, 1] : List Nat).filter (Lib.keeps #[a, b])).map ((#[a, b] : Array Int)[·]!) := rfl
  rw [e]
  by_cases h : a = b
  · subst h; rw [if_pos rfl]; simp [Lib.keeps]
  · rw [if_neg h]
    have : ¬ b = a := fun e => h e.symm
    simp [Lib.keeps, this]
/-- Where a place goes on, written out. -/
def nx1 (n : Nat) (a : Int) : List Int := if a < n then [a] else []
def nx2 (n : Nat) (a b : Int) : List Int := if a < n then if b < n then if a = b then [a] else if a ≤ b then [a, b] else [b, a] else [a] else if b < n then [b] else []
theorem nexts_eq (n : Nat) (op k pc : Int) : nexts n op k pc = if op = 0 ∨ op = 41 ∨ op = 43 then [] else if op = 39 ∨ op = 40 then nx1 n k else if op = 36 ∨ op = 37 ∨ op = 38 then nx2 n k (pc + 1) else nx1 n (pc + 1) := by
  have h1 : ∀ a : Int, Lib.compact ((([a] : List Int).filter fun x => !decide ((n : Int) ≤ x)).mergeSort fun x y => decide (x ≤ y)) = nx1 n a := fun a => by
    unfold nx1
    by_cases h : a < n
    · have e : ([a] : List Int).filter (fun x => !decide ((n : Int) ≤ x)) = [a] := by simp; omega
      rw [e, sort1, compact1, if_pos h]
    · have e : ([a] : List Int).filter (fun x => !decide ((n : Int) ≤ x)) = [] := by simp; omega
      rw [e, if_neg h]; exact compact0
  have h2 : ∀ a b : Int, Lib.compact ((([a, b] : List Int).filter fun x => !decide ((n : Int) ≤ x)).mergeSort fun x y => decide (x ≤ y)) = nx2 n a b := fun a b => by
    unfold nx2
    by_cases ha : a < n
    · by_cases hb : b < n
      · have e : ([a, b] : List Int).filter (fun x => !decide ((n : Int) ≤ x)) = [a, b] := by
          have e1 : (!decide ((n : Int) ≤ a)) = true := by simp; omega
          have e2 : (!decide ((n : Int) ≤ b)) = true := by simp; omega
          simp only [List.filter_cons, e1, e2, if_true, List.filter_nil]
        rw [e, sort2, if_pos ha, if_pos hb]
        by_cases hab : a ≤ b
        · rw [if_pos hab, compact2]
        · rw [if_neg hab, compact2, if_neg (by omega)]; simp [show ¬ a = b by omega]
      · have e : ([a, b] : List Int).filter (fun x => !decide ((n : Int) ≤ x)) = [a] := by
          have e1 : (!decide ((n : Int) ≤ a)) = true := by simp; omega
          have e2 : (!decide ((n : Int) ≤ b)) = false := by simp; omega
          simp only [List.filter_cons, e1, e2, if_true, List.filter_nil]; rfl
        rw [e, sort1, compact1, if_pos ha, if_neg hb]
    · have e1 : (!decide ((n : Int) ≤ a)) = false := by simp; omega
      by_cases hb : b < n
      · have e2 : (!decide ((n : Int) ≤ b)) = true := by simp; omega
        have e : ([a, b] : List Int).filter (fun x => !decide ((n : Int) ≤ x)) = [b] := by simp only [List.filter_cons, e1, e2, if_true, List.filter_nil]; rfl
        rw [e, sort1, compact1, if_neg ha, if_pos hb]
      · have e2 : (!decide ((n : Int) ≤ b)) = false := by simp; omega
        have e : ([a, b] : List Int).filter (fun x => !decide ((n : Int) ≤ x)) = [] := by simp only [List.filter_cons, e1, e2, List.filter_nil]; rfl
        rw [e, if_neg ha, if_neg hb]; exact compact0
  unfold nexts raws
  split
  · exact compact0
  · split
    · exact h1 k
    · split
      · exact h2 k (pc + 1)
      · exact h1 (pc + 1)
theorem mem_nx1 {n : Nat} {a x : Int} (h : x ∈ nx1 n a) : x = a ∧ a < n := by unfold nx1 at h; split at h <;> simp_all
theorem mem_nx2 {n : Nat} {a b x : Int} (h : x ∈ nx2 n a b) : (x = a ∨ x = b) ∧ x < n := by
  unfold nx2 at h
  repeat' split at h
  all_goals simp at h
  all_goals omega

/-- The number of a goer is a place, or beyond. -/
theorem dec_goer (x : Int) (h0 : 0 ≤ x) (hx : x < 4294967296) (h : 36 ≤ (dec x).1 ∧ (dec x).1 ≤ 40) : 0 ≤ (dec x).2.2.2.2.1 ∧ (dec x).2.2.2.2.1 < 65536 := by
  rw [dec_eq x h0 hx] at h ⊢
  have hL : 0 ≤ fLo x ∧ fLo x < 65536 := by unfold fLo; omega
  suffices ∀ t, t = decP x → 36 ≤ t.1 ∧ t.1 ≤ 40 → 0 ≤ t.2.2.2.2.1 ∧ t.2.2.2.2.1 < 65536 from this _ rfl h
  intro t ht h
  unfold decP bad3 at ht
  repeat' split at ht
  all_goals subst ht
  all_goals simp at h ⊢
  all_goals omega
theorem nextL_eq {l : List Int} {pc : Int} (h0 : 0 ≤ pc) (h1 : pc < l.length) : nextL l pc = nexts l.length (dec (YtbcmckfceeakhaaW.PrintWords.rd l pc)).1 (dec (YtbcmckfceeakhaaW.PrintWords.rd l pc)).2.2.2.2.1 pc := by
  unfold nextL; rw [if_neg (by omega)]
theorem rd_mem {l : List Int} {pc : Int} (h0 : 0 ≤ pc) (h1 : pc < l.length) : YtbcmckfceeakhaaW.PrintWords.rd l pc ∈ l := by
  obtain ⟨p, rfl⟩ := Int.eq_ofNat_of_zero_le h0
  have hp : p < l.length := by omega
  have : YtbcmckfceeakhaaW.PrintWords.rd l p = l[p] := by
    show l.getD ((p : Int).toNat) 0 = _
    rw [Int.toNat_natCast]
    simp [hp]
  rw [this]
  exact List.getElem_mem hp
theorem nextL_lt {l : List Int} {pc y : Int} (hok : okW l) (h : y ∈ nextL l pc) : 0 ≤ y ∧ y < l.length := by
  by_cases hr : pc < 0 ∨ (l.length : Int) ≤ pc
  · unfold nextL at h; rw [if_pos hr] at h; cases h
  · have hw := hok.2 _ (rd_mem (l := l) (pc := pc) (by omega) (by omega))
    rw [nextL_eq (by omega) (by omega), nexts_eq] at h
    have hg := dec_goer _ hw.1 hw.2
    split at h
    · cases h
    · split at h
      · obtain ⟨rfl, h2⟩ := mem_nx1 h
        exact ⟨(hg (by omega)).1, h2⟩
      · split at h
        · obtain ⟨rfl | rfl, h2⟩ := mem_nx2 h
          · exact ⟨(hg (by omega)).1, h2⟩
          · exact ⟨by omega, h2⟩
        · obtain ⟨rfl, h2⟩ := mem_nx1 h
          exact ⟨by omega, h2⟩
theorem nextL_len (l : List Int) (pc : Int) : (nextL l pc).length ≤ 2 := by
  unfold nextL
  split
  · simp
  · rw [nexts_eq]
    unfold nx1 nx2
    repeat' split
    all_goals simp
end Go.Proofs.Ytbcmckfceeakhaa.Gv
end
