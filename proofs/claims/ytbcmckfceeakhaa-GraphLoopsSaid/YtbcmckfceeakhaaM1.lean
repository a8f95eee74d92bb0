section
set_option linter.unusedVariables false
set_option linter.unusedSimpArgs false
/-! Plain facts on ways: reaching, standing ahead, loops. No program in sight. -/
namespace AG

/-- From a one comes to c along nx, all places on the way (a and c too) being ok. -/
inductive Rch (nx : Nat → List Nat) (ok : Nat → Prop) (a : Nat) : Nat → Prop
  | here : ok a → Rch nx ok a a
  | step {b c : Nat} : Rch nx ok a b → c ∈ nx b → ok c → Rch nx ok a c

variable {nx : Nat → List Nat} {ok ok' : Nat → Prop}

theorem Rch.ok_to {a b : Nat} (h : Rch nx ok a b) : ok b := by cases h <;> assumption
theorem Rch.ok_from {a b : Nat} (h : Rch nx ok a b) : ok a := by induction h <;> assumption
theorem Rch.trans {a b c : Nat} (h : Rch nx ok a b) (k : Rch nx ok b c) : Rch nx ok a c := by
  induction k with
  | here => exact h
  | step _ hc ho ih => exact .step ih hc ho
theorem Rch.weaken {a b : Nat} (h : Rch nx ok a b) (hw : ∀ p, ok p → ok' p) : Rch nx ok' a b := by
  induction h with
  | here h => exact .here (hw _ h)
  | step _ hc ho ih => exact .step ih hc (hw _ ho)
theorem Rch.head {a b c : Nat} (ha : ok a) (hb : b ∈ nx a) (h : Rch nx ok b c) : Rch nx ok a c := by
  induction h with
  | here h => exact .step (.here ha) hb h
  | step _ hc ho ih => exact .step ih hc ho
/-- The first step of a way. -/
theorem Rch.first {a c : Nat} (h : Rch nx ok a c) : a = c ∨ ∃ b, b ∈ nx a ∧ Rch nx ok b c := by
  induction h with
  | here => exact .inl rfl
  | step h hc ho ih =>
    rcases ih with rfl | ⟨b, hb, hr⟩
    · exact .inr ⟨_, hc, .here ho⟩
    · exact .inr ⟨b, hb, .step hr hc ho⟩
/-- Either a way shuns x, or x lies on it. -/
theorem Rch.through {a c : Nat} (x : Nat) (h : Rch nx ok a c) : Rch nx (fun p => ok p ∧ p ≠ x) a c ∨ (Rch nx ok a x ∧ Rch nx ok x c) := by
  induction h with
  | here h =>
    by_cases e : a = x
    · subst e; exact .inr ⟨.here h, .here h⟩
    · exact .inl (.here ⟨h, e⟩)
  | @step b c h hc ho ih =>
    by_cases e : c = x
    · subst e; exact .inr ⟨.step h hc ho, .here ho⟩
    · rcases ih with ih | ⟨i1, i2⟩
      · exact .inl (.step ih hc ⟨ho, e⟩)
      · exact .inr ⟨i1, .step i2 hc ho⟩
/-- What is closed under allowed steps and holds the start holds all that is reached. -/
theorem Rch.closed {a c : Nat} {S : Nat → Prop} (h : Rch nx ok a c) (h0 : S a) (hs : ∀ p, S p → ∀ q, q ∈ nx p → ok q → S q) : S c := by
  induction h with
  | here => exact h0
  | step _ hc ho ih => exact hs _ ih _ hc ho

/-! ### Standing ahead -/
abbrev any (_ : Nat) : Prop := True
/-- p is reached from 0. -/
def Reached (nx : Nat → List Nat) (p : Nat) : Prop := Rch nx any 0 p
/-- a stands ahead of p, p being reached: p is not reached without a. -/
def Dom (nx : Nat → List Nat) (a p : Nat) : Prop := a = p ∨ ¬ Rch nx (· ≠ a) 0 p

/-- A fixed point of the sets' equations is what stands ahead. -/
theorem dom_of_fix {out : Nat → Nat → Prop} {n : Nat}
    (h0 : ∀ a, out 0 a → a = 0) (hfix : ∀ p, Reached nx p → p ≠ 0 → ∀ a, out p a → a = p ∨ ∀ q, q < n → p ∈ nx q → Reached nx q → out q a)
    (hn : ∀ p, Reached nx p → p < n) {p a : Nat} (h : out p a) : Dom nx a p := by
  by_cases e : a = p
  · exact .inl e
  · refine .inr fun hr => ?_
    suffices ∀ p, Rch nx (· ≠ a) 0 p → ¬ out p a from this p hr h
    intro p hr
    induction hr with
    | here h0' => intro ho; exact h0' (h0 a ho).symm
    | @step b c hb hc hca ih =>
      intro ho
      have hbR : Reached nx b := hb.weaken fun _ _ => trivial
      by_cases ec : c = 0
      · subst ec; exact hca (h0 a ho).symm
      · rcases hfix c (hbR.step hc trivial) ec a ho with e | e
        · exact hca e.symm
        · exact ih (e b (hn b hbR) hc hbR)

/-- What stands ahead of p stands ahead of all from which p is come to. -/
theorem dom_back {a p q : Nat} (hd : Dom nx a p) (hap : a ≠ p) (hq : p ∈ nx q) : Dom nx a q := by
  by_cases e : a = q
  · exact .inl e
  · refine .inr fun hr => ?_
    rcases hd with h | h
    · exact hap h
    · exact h (hr.step hq (fun e => hap e.symm))
theorem dom_zero {a : Nat} (h : Dom nx a 0) : a = 0 := by
  rcases h with h | h
  · exact h
  · by_cases e : a = 0
    · exact e
    · exact absurd (Rch.here (fun e' => e e'.symm)) h
theorem dom_reached {a p : Nat} (hp : Reached nx p) (h : Dom nx a p) : Reached nx a := by
  rcases h with rfl | h
  · exact hp
  · rcases hp.through a with h' | h'
    · exact absurd (h'.weaken fun _ h => h.2) h
    · exact h'.1
/-- From what stands ahead of p one comes to p. -/
theorem dom_comes {a p : Nat} (hp : Reached nx p) (h : Dom nx a p) : Rch nx any a p := by
  rcases h with rfl | h
  · exact .here trivial
  · rcases hp.through a with h' | h'
    · exact absurd (h'.weaken fun _ h => h.2) h
    · exact h'.2

/-! ### A way back's loop -/
/-- The places of the loop of a way back from b to h. -/
def InLoop (nx : Nat → List Nat) (h b p : Nat) : Prop := Reached nx p ∧ (p = h ∨ b = p ∨ Rch nx (· ≠ h) p b)
/-- The head stands ahead of all of its loop. -/
theorem dom_loop {h b p : Nat} (hd : Dom nx h b) (hp : InLoop nx h b p) : Dom nx h p := by
  obtain ⟨hr, rfl | rfl | hb⟩ := hp
  · exact .inl rfl
  · exact hd
  · rcases hd with rfl | hd
    · exact absurd rfl hb.ok_to
    · by_cases e : h = p
      · exact .inl e
      · exact .inr fun hz => hd (hz.trans hb)

/-- Backwards: the places from which b is come to without h. -/
theorem rch_back {bk : Nat → List Nat} {n : Nat} (hbk : ∀ p q, p < n → q < n → (q ∈ bk p ↔ p ∈ nx q)) {b p : Nat}
    (hlt : ∀ p q, p < n → q ∈ bk p → q < n) (hb : b < n) (hr : Rch bk (fun q => ok q) b p) : p < n ∧ Rch nx ok p b := by
  induction hr with
  | here h => exact ⟨hb, .here h⟩
  | @step c d hc hd ho ih =>
    have hdn := hlt c d ih.1 hd
    exact ⟨hdn, Rch.head ho ((hbk c d ih.1 hdn).1 hd) ih.2⟩
theorem rch_forth {bk : Nat → List Nat} {n : Nat} (hbk : ∀ p q, p < n → q < n → (q ∈ bk p ↔ p ∈ nx q)) {b p : Nat}
    (hlt : ∀ p q, p < n → q ∈ nx p → q < n) (hp : p < n) (hr : Rch nx ok p b) : b < n ∧ Rch bk ok b p := by
  induction hr with
  | here h => exact ⟨hp, .here h⟩
  | @step c d hc hd ho ih =>
    have hdn := hlt c d ih.1 hd
    exact ⟨hdn, Rch.head ho ((hbk d c hdn ih.1).2 hd) ih.2⟩

/-! ### Round and round -/
/-- A reached place can be come to from itself. -/
def Cyc (nx : Nat → List Nat) : Prop := ∃ p q, Reached nx p ∧ q ∈ nx p ∧ Rch nx any q p
theorem cyc_of_back {b h : Nat} (hb : Reached nx b) (he : h ∈ nx b) (hd : Dom nx h b) : Cyc nx :=
  ⟨b, h, hb, he, dom_comes hb hd⟩
/-- Where every reached place has a rank above those that it goes to, nothing goes round. -/
theorem not_cyc_of_rank (rank : Nat → Nat) (h : ∀ p, Reached nx p → ∀ q, q ∈ nx p → rank q < rank p) : ¬ Cyc nx := by
  rintro ⟨p, q, hp, hq, hr⟩
  have hle : rank p ≤ rank q := by
    have hqR : Reached nx q := hp.step hq trivial
    clear hq
    induction hr with
    | here => exact Nat.le_refl _
    | @step b c hb hc _ ih =>
      have := h b (hqR.trans hb) c hc
      have := ih (hqR.trans hb)
      omega
  have := h p hp q hq
  omega

/-- Done places, the last one first: each goes to places that were done before it. -/
inductive Topo (nx : Nat → List Nat) : List Nat → Prop
  | nil : Topo nx []
  | cons {x : Nat} {l : List Nat} : Topo nx l → x ∉ l → (∀ q, q ∈ nx x → q ∈ l) → Topo nx (x :: l)
def rankIn : List Nat → Nat → Nat
  | [], _ => 0
  | x :: l, q => if q = x then l.length + 1 else rankIn l q
theorem rankIn_le : ∀ (l : List Nat) (q : Nat), rankIn l q ≤ l.length
  | [], _ => Nat.le_refl _
  | x :: l, q => by
    unfold rankIn
    have := rankIn_le l q
    split <;> simp <;> omega
theorem Topo.rank {l : List Nat} (h : Topo nx l) : ∀ p, p ∈ l → ∀ q, q ∈ nx p → q ∈ l ∧ rankIn l q < rankIn l p := by
  induction h with
  | nil => intro p hp; cases hp
  | @cons x l _ hx hs ih =>
    intro p hp q hq
    by_cases e : p = x
    · subst e
      have hql := hs q hq
      have hne : q ≠ p := fun e => hx (e ▸ hql)
      refine ⟨List.mem_cons_of_mem _ hql, ?_⟩
      have := rankIn_le l q
      simp [rankIn, hne]; omega
    · have hpl : p ∈ l := by
        rcases List.mem_cons.1 hp with h | h
        · exact absurd h e
        · exact h
      obtain ⟨h1, h2⟩ := ih p hpl q hq
      have hne : q ≠ x := fun e => hx (e ▸ h1)
      refine ⟨List.mem_cons_of_mem _ h1, ?_⟩
      simpa [rankIn, hne, e] using h2
/-- Where all that is reached is done, and stands in such an order, nothing goes round. -/
theorem not_cyc_of_topo {l : List Nat} (h : Topo nx l) (h0 : 0 ∈ l) : ¬ Cyc nx := by
  have hall : ∀ p, Reached nx p → p ∈ l := fun p hp => hp.closed (S := (· ∈ l)) h0 fun p hp q hq _ => (h.rank p hp q hq).1
  exact not_cyc_of_rank (rankIn l) fun p hp q hq => (h.rank p (hall p hp) q hq).2

/-! ### The search that colours -/
/-- Before a place that nobody has come to is come to: those that are open lead to it; those that are done stand in order, unless something was found. -/
structure Col (nx : Nat → List Nat) (n : Nat) (st : Nat → Nat) (found : Bool) (p : Nat) : Prop where
  opens : ∀ q, st q = 1 → Rch nx any q p
  reach : Reached nx p
  cyc : found = true → Cyc nx
  order : found = false → ∃ l, Topo nx l ∧ (∀ q, q ∈ l ↔ q < n ∧ st q = 2)
/-- What has become of the colours: open stays open, done stays done, fresh stays fresh or is done. -/
structure Went (st st' : Nat → Nat) : Prop where
  opens : ∀ q, st' q = 1 ↔ st q = 1
  dones : ∀ q, st q = 2 → st' q = 2
  kinds : ∀ q, st q ≤ 2 → st' q ≤ 2
theorem Went.refl (st : Nat → Nat) : Went st st := ⟨fun _ => Iff.rfl, fun _ h => h, fun _ h => h⟩
theorem Went.trans {a b c : Nat → Nat} (h : Went a b) (k : Went b c) : Went a c :=
  ⟨fun q => (k.opens q).trans (h.opens q), fun q hq => k.dones q (h.dones q hq), fun q hq => k.kinds q (h.kinds q hq)⟩
def setAt (st : Nat → Nat) (p x : Nat) : Nat → Nat := fun q => if q = p then x else st q
/-- Opening p. -/
theorem Col.opened {n : Nat} {st : Nat → Nat} {found : Bool} {p : Nat} (h : Col nx n st found p) (h0 : st p = 0) :
    (∀ q, setAt st p 1 q = 1 → Rch nx any q p) ∧ (found = false → ∃ l, Topo nx l ∧ (∀ q, q ∈ l ↔ q < n ∧ setAt st p 1 q = 2)) := by
  constructor
  · intro q hq
    unfold setAt at hq
    split at hq
    · rename_i e; subst e; exact .here trivial
    · exact h.opens q hq
  · intro hf
    obtain ⟨l, hl, hm⟩ := h.order hf
    refine ⟨l, hl, fun q => (hm q).trans ?_⟩
    unfold setAt
    by_cases e : q = p
    · subst e; simp [h0]
    · simp [e]
/-- Closing p, all that it goes to being done (if nothing was found). -/
theorem topo_closed {n : Nat} {st : Nat → Nat} {p : Nat} {l : List Nat} (hl : Topo nx l) (hm : ∀ q, q ∈ l ↔ q < n ∧ st q = 2) (hp : st p = 1) (hpn : p < n)
    (hlt : ∀ q, q ∈ nx p → q < n) (hd : ∀ q, q ∈ nx p → st q = 2) : Topo nx (p :: l) ∧ (∀ q, q ∈ p :: l ↔ q < n ∧ setAt st p 2 q = 2) := by
  refine ⟨.cons hl (fun h => ?_) (fun q hq => (hm q).2 ⟨hlt q hq, hd q hq⟩), fun q => ?_⟩
  · have := ((hm p).1 h).2; omega
  · unfold setAt
    by_cases e : q = p
    · subst e; simp [hpn]
    · simp [e, hm]
end AG
end

section
set_option linter.unusedVariables false
set_option linter.unusedSimpArgs false
/-! Sets as bits; the search that marks. No program in sight. -/
namespace AG
variable {nx : Nat → List Nat} {ok : Nat → Prop}

/-! ### Bits -/
def has (s p : Nat) : Prop := s.testBit p = true
instance (s p : Nat) : Decidable (has s p) := inferInstanceAs (Decidable (_ = true))
theorem has_zero (p : Nat) : ¬ has 0 p := by simp [has]
theorem has_or (s t p : Nat) : has (s ||| t) p ↔ has s p ∨ has t p := by simp [has, Nat.testBit_or]
theorem has_and (s t p : Nat) : has (s &&& t) p ↔ has s p ∧ has t p := by simp [has, Nat.testBit_and]
theorem has_pow (p q : Nat) : has (2 ^ p) q ↔ q = p := by
  simp [has, Nat.testBit_two_pow]
  exact eq_comm
theorem has_put (s p q : Nat) : has (s ||| 2 ^ p) q ↔ has s q ∨ q = p := by rw [has_or, has_pow]
theorem has_lt {s n p : Nat} (h : s < 2 ^ n) (hp : has s p) : p < n := by
  by_cases e : p < n
  · exact e
  · have := Nat.testBit_lt_two_pow (x := s) (i := p) (Nat.lt_of_lt_of_le h (Nat.pow_le_pow_right (by omega) (by omega)))
    rw [has, this] at hp
    cases hp
theorem has_ext {s t : Nat} (h : ∀ p, has s p ↔ has t p) : s = t := by
  apply Nat.eq_of_testBit_eq
  intro i
  have := h i
  unfold has at this
  cases h1 : s.testBit i <;> cases h2 : t.testBit i <;> simp_all
theorem put_lt {s n p : Nat} (h : s < 2 ^ n) (hp : p < n) : s ||| 2 ^ p < 2 ^ n :=
  Nat.or_lt_two_pow h (Nat.pow_lt_pow_right (by omega) hp)
theorem has_all (n p : Nat) : has (2 ^ n - 1) p ↔ p < n := by
  simp [has, Nat.testBit_two_pow_sub_one]

/-- How many places below n are not in a set. -/
def miss : Nat → Nat → Nat
  | 0, _ => 0
  | n + 1, s => miss n s + if s.testBit n then 0 else 1
theorem miss_le (n s : Nat) : miss n s ≤ n := by
  induction n with
  | zero => exact Nat.le_refl _
  | succ n ih => unfold miss; split <;> omega
theorem miss_mono {n s t : Nat} (h : ∀ p, p < n → has s p → has t p) : miss n t ≤ miss n s := by
  induction n with
  | zero => exact Nat.le_refl _
  | succ n ih =>
    have := ih fun p hp => h p (by omega)
    have h2 := h n (by omega)
    unfold miss
    unfold has at h2
    split <;> split <;> first | omega | (exfalso; simp_all)
theorem miss_lt {n s t p : Nat} (h : ∀ p, p < n → has s p → has t p) (hp : p < n) (hs : ¬ has s p) (ht : has t p) : miss n t < miss n s := by
  induction n with
  | zero => omega
  | succ n ih =>
    have h2 := h n (by omega)
    unfold miss
    by_cases e : p = n
    · subst e
      have := miss_mono (n := p) (s := s) (t := t) fun q hq => h q (by omega)
      unfold has at hs ht
      simp only [ht, if_true]
      simp only [Bool.not_eq_true] at hs
      simp only [hs]
      simp
      omega
    · have := ih (fun q hq => h q (by omega)) (by omega)
      unfold has at h2
      split <;> split <;> first | omega | (exfalso; simp_all)

/-! ### The search that marks -/
/-- What come(p) has made of a set. -/
structure Spr (nx : Nat → List Nat) (ok : Nat → Prop) (s s' p : Nat) : Prop where
  grows : ∀ q, has s q → has s' q
  got : ok p → has s' p
  new : ∀ q, has s' q → ¬ has s q → Rch nx ok p q
  closed : ∀ q, has s' q → ¬ has s q → ∀ r, r ∈ nx q → ok r → has s' r
/-- What its loop has made, these places having been come to. -/
structure SprL (nx : Nat → List Nat) (ok : Nat → Prop) (s s' p : Nat) (l : List Nat) : Prop where
  grows : ∀ q, has s q → has s' q
  got : ∀ q, q ∈ l → ok q → has s' q
  new : ∀ q, has s' q → ¬ has s q → Rch nx ok p q
  closed : ∀ q, has s' q → ¬ has s q → ∀ r, r ∈ nx q → ok r → has s' r
theorem Spr.skip {s p : Nat} (h : has s p ∨ ¬ ok p) : Spr nx ok s s p :=
  ⟨fun _ h => h, fun ho => h.elim id fun k => absurd ho k, fun _ h k => absurd h k, fun _ h k => absurd h k⟩
theorem SprL.start (s p : Nat) : SprL nx ok s s p [] :=
  ⟨fun _ h => h, fun _ h => (by cases h), fun _ h k => absurd h k, fun _ h k => absurd h k⟩
theorem SprL.step {s s' s'' p q : Nat} {l : List Nat} (h : SprL nx ok s s' p l) (hok : ok p) (hq : q ∈ nx p) (k : Spr nx ok s' s'' q) : SprL nx ok s s'' p (l ++ [q]) where
  grows r hr := k.grows r (h.grows r hr)
  got r hr ho := by
    rcases List.mem_append.1 hr with hr | hr
    · exact k.grows r (h.got r hr ho)
    · obtain rfl := List.mem_singleton.1 hr
      exact k.got ho
  new r hr hn := by
    by_cases e : has s' r
    · exact h.new r e hn
    · exact Rch.head hok hq (k.new r hr e)
  closed r hr hn t ht ho := by
    by_cases e : has s' r
    · exact k.grows t (h.closed r e hn t ht ho)
    · exact k.closed r hr e t ht ho
theorem SprL.done {s s' p : Nat} (hok : ok p) (h : SprL nx ok (s ||| 2 ^ p) s' p (nx p)) : Spr nx ok s s' p where
  grows q hq := h.grows q ((has_put _ _ _).2 (.inl hq))
  got _ := h.grows p ((has_put _ _ _).2 (.inr rfl))
  new q hq hn := by
    by_cases e : q = p
    · subst e; exact .here hok
    · exact h.new q hq fun k => ((has_put _ _ _).1 k).elim hn e
  closed q hq hn r hr ho := by
    by_cases e : q = p
    · subst e; exact h.got r hr ho
    · exact h.closed q hq (fun k => ((has_put _ _ _).1 k).elim hn e) r hr ho
/-- From nothing on: what is marked is what is reached. -/
theorem Spr.all {s p : Nat} (h : Spr nx ok 0 s p) (q : Nat) : has s q ↔ Rch nx ok p q := by
  constructor
  · intro hq; exact h.new q hq (has_zero q)
  · intro hr
    exact hr.closed (S := has s) (h.got hr.ok_from) fun a ha b hb ho => h.closed a ha (has_zero a) b hb ho
theorem Rch.lt {n p q : Nat} (h : Rch nx ok p q) (hp : p < n) (hlt : ∀ a b, a < n → b ∈ nx a → b < n) : q < n :=
  h.closed (S := (· < n)) hp fun a ha b hb _ => hlt a b ha hb
theorem Spr.lt {s s' p n : Nat} (h : Spr nx ok s s' p) (hs : ∀ q, has s q → q < n) (hp : p < n) (hlt : ∀ a b, a < n → b ∈ nx a → b < n) (q : Nat) (hq : has s' q) : q < n := by
  by_cases e : has s q
  · exact hs q e
  · exact (h.new q hq e).lt hp hlt
end AG
end

section
set_option linter.unusedVariables false
set_option linter.unusedSimpArgs false
/-! Who stands ahead, by sets that only lose. No program in sight. -/
namespace AG
variable {nx bk : Nat → List Nat}

/-- What all of some sets have, those of places that are not reached left out. -/
def meets (R : Nat → Bool) (out : Nat → Nat) : List Nat → Nat → Nat
  | [], s => s
  | q :: l, s => meets R out l (if R q then s &&& out q else s)
theorem meets_snoc (R : Nat → Bool) (out : Nat → Nat) (l : List Nat) (q s : Nat) : meets R out (l ++ [q]) s = if R q then meets R out l s &&& out q else meets R out l s := by
  induction l generalizing s with
  | nil => rfl
  | cons x l ih => simp only [List.cons_append, meets]; exact ih _
theorem has_meets (R : Nat → Bool) (out : Nat → Nat) (l : List Nat) (s a : Nat) : has (meets R out l s) a ↔ has s a ∧ ∀ q, q ∈ l → R q = true → has (out q) a := by
  induction l generalizing s with
  | nil => simp [meets]
  | cons x l ih =>
    simp only [meets]
    rw [ih]
    by_cases e : R x = true
    · simp only [e, if_true, has_and, List.mem_cons]
      constructor
      · rintro ⟨⟨h1, h2⟩, h3⟩
        refine ⟨h1, fun q hq hr => ?_⟩
        rcases hq with rfl | hq
        · exact h2
        · exact h3 q hq hr
      · rintro ⟨h1, h2⟩
        exact ⟨⟨h1, h2 x (.inl rfl) e⟩, fun q hq hr => h2 q (.inr hq) hr⟩
    · simp only [e]
      constructor
      · rintro ⟨h1, h3⟩
        refine ⟨by simpa using h1, fun q hq hr => ?_⟩
        rcases List.mem_cons.1 hq with rfl | hq
        · exact absurd hr e
        · exact h3 q hq hr
      · rintro ⟨h1, h2⟩
        exact ⟨by simpa using h1, fun q hq hr => h2 q (List.mem_cons_of_mem _ hq) hr⟩
theorem meets_lt {R : Nat → Bool} {out : Nat → Nat} {n : Nat} (l : List Nat) (s : Nat) (h : s < 2 ^ n) : meets R out l s < 2 ^ n := by
  induction l generalizing s with
  | nil => exact h
  | cons x l ih =>
    apply ih
    split
    · exact Nat.lt_of_le_of_lt Nat.and_le_left h
    · exact h
/-- The new set of p. -/
def flowAt (R : Nat → Bool) (bk : Nat → List Nat) (n : Nat) (out : Nat → Nat) (p : Nat) : Nat := meets R out (bk p) (2 ^ n - 1) ||| 2 ^ p
theorem has_flowAt {R : Nat → Bool} {n : Nat} {out : Nat → Nat} {p a : Nat} : has (flowAt R bk n out p) a ↔ (a < n ∧ ∀ q, q ∈ bk p → R q = true → has (out q) a) ∨ a = p := by
  unfold flowAt
  rw [has_put, has_meets, has_all]
theorem flowAt_lt {R : Nat → Bool} {n : Nat} {out : Nat → Nat} {p : Nat} (hp : p < n) : flowAt R bk n out p < 2 ^ n :=
  put_lt (meets_lt _ _ (Nat.sub_lt (Nat.two_pow_pos n) (by omega))) hp

/-- What holds of the sets all along. -/
structure Flow (nx bk : Nat → List Nat) (R : Nat → Bool) (n : Nat) (out : Nat → Nat) : Prop where
  lt : ∀ p, p < n → out p < 2 ^ n
  zero : 0 < n → out 0 = 1
  sound : ∀ p, p < n → Reached nx p → ∀ a, a < n → Dom nx a p → has (out p) a
  mono : ∀ p, p < n → p ≠ 0 → Reached nx p → ∀ a, has (flowAt R bk n out p) a → has (out p) a
def upd (out : Nat → Nat) (p s : Nat) : Nat → Nat := fun q => if q = p then s else out q
def atStart (n : Nat) (p : Nat) : Nat := if p = 0 then 1 else 2 ^ n - 1
section
variable {R : Nat → Bool} {n : Nat} (hR : ∀ p, p < n → (R p = true ↔ Reached nx p)) (hbk : ∀ p q, p < n → q ∈ bk p → q < n ∧ p ∈ nx q)

theorem Flow.start : Flow nx bk R n (atStart n) where
  lt p hp := by
    unfold atStart
    have := Nat.two_pow_pos n
    split
    · exact Nat.one_lt_two_pow (by omega)
    · omega
  zero _ := rfl
  sound p hp _ a ha hd := by
    unfold atStart
    split
    · rename_i e; subst e
      rw [dom_zero hd]; simp [has]
    · exact (has_all n a).2 ha
  mono p hp h0 _ a h := by
    unfold atStart
    rw [if_neg h0]
    exact (has_all n a).2 (has_lt (flowAt_lt hp) h)
include hR hbk in
theorem Flow.turn {out : Nat → Nat} (h : Flow nx bk R n out) {p : Nat} (hp : p < n) (h0 : p ≠ 0) (hr : Reached nx p) : Flow nx bk R n (upd out p (flowAt R bk n out p)) := by
  have hle : ∀ q a, has (upd out p (flowAt R bk n out p) q) a → has (out q) a := by
    intro q a hq
    unfold upd at hq
    split at hq
    · rename_i e; subst e; exact h.mono q hp h0 hr a hq
    · exact hq
  have hFle : ∀ q a, q < n → has (flowAt R bk n (upd out p (flowAt R bk n out p)) q) a → has (flowAt R bk n out q) a := by
    intro q a _ hq
    rw [has_flowAt] at hq ⊢
    exact hq.imp (fun ⟨h1, h2⟩ => ⟨h1, fun r hr1 hr2 => hle r a (h2 r hr1 hr2)⟩) id
  refine ⟨fun q hq => ?_, fun hn => ?_, fun q hq hqr a ha hd => ?_, fun q hq hq0 hqr a ha => ?_⟩
  · unfold upd
    split
    · exact flowAt_lt hp
    · exact h.lt q hq
  · unfold upd
    rw [if_neg (fun e => h0 e.symm)]
    exact h.zero hn
  · unfold upd
    split
    · rename_i e; subst e
      rw [has_flowAt]
      by_cases e : a = q
      · exact .inr e
      · refine .inl ⟨ha, fun r hr1 hr2 => ?_⟩
        have hrn := hbk q r hq hr1
        exact h.sound r hrn.1 ((hR r hrn.1).1 hr2) a ha (dom_back hd e hrn.2)
    · exact h.sound q hq hqr a ha hd
  · have h2 := hFle q a hq ha
    unfold upd
    split
    · rename_i e; subst e; exact h2
    · exact h.mono q hq hq0 hqr a h2
end
/-- How many places are in all sets together. -/
def tot (n : Nat) (out : Nat → Nat) : Nat → Nat
  | 0 => 0
  | m + 1 => tot n out m + (n - miss n (out m))
theorem tot_upd_ge {n : Nat} {out : Nat → Nat} {p s : Nat} : ∀ m, m ≤ p → tot n (upd out p s) m = tot n out m
  | 0, _ => rfl
  | m + 1, h => by
    unfold tot
    rw [tot_upd_ge m (by omega)]
    unfold upd
    rw [if_neg (by omega)]
theorem tot_upd {n : Nat} {out : Nat → Nat} {p s : Nat} (hlt : n - miss n s < n - miss n (out p)) : ∀ m, p < m → tot n (upd out p s) m < tot n out m
  | 0, h => by omega
  | m + 1, h => by
    unfold tot
    by_cases e : p = m
    · subst e
      rw [tot_upd_ge p (Nat.le_refl _)]
      have : upd out p s p = s := by simp [upd]
      rw [this]; omega
    · have := tot_upd (s := s) hlt m (by omega)
      have e2 : upd out p s m = out m := by unfold upd; rw [if_neg (fun e' => e e'.symm)]
      rw [e2]; omega
/-- A set that changes loses. -/
theorem Flow.loses {R : Nat → Bool} {n : Nat} {out : Nat → Nat} (h : Flow nx bk R n out) {p : Nat} (hp : p < n) (h0 : p ≠ 0) (hr : Reached nx p) (hne : flowAt R bk n out p ≠ out p) :
    tot n (upd out p (flowAt R bk n out p)) n < tot n out n := by
  apply tot_upd _ n hp
  have hsub := h.mono p hp h0 hr
  have : ∃ a, has (out p) a ∧ ¬ has (flowAt R bk n out p) a := by
    apply Classical.byContradiction
    intro hno
    apply hne
    apply has_ext
    intro a
    refine ⟨hsub a, fun ha => Classical.byContradiction fun k => hno ⟨a, ha, k⟩⟩
  obtain ⟨a, ha, hna⟩ := this
  have han := has_lt (h.lt p hp) ha
  have h1 := miss_lt (n := n) (fun q _ => hsub q) han hna ha
  have h2 := miss_le n (flowAt R bk n out p)
  omega
/-- Where nothing changes any more, the sets are who stands ahead. -/
theorem Flow.fixed {R : Nat → Bool} {n : Nat} {out : Nat → Nat} (h : Flow nx bk R n out) (hR : ∀ p, p < n → (R p = true ↔ Reached nx p))
    (hbk : ∀ p q, p < n → q < n → p ∈ nx q → q ∈ bk p) (hn : ∀ p, Reached nx p → p < n) (hn0 : 0 < n)
    (hf : ∀ p, p < n → p ≠ 0 → Reached nx p → flowAt R bk n out p = out p) {p a : Nat} (hp : Reached nx p) (ha : a < n) : has (out p) a ↔ Dom nx a p := by
  refine ⟨fun ho => ?_, fun hd => h.sound p (hn p hp) hp a ha hd⟩
  refine dom_of_fix (out := fun p a => has (out p) a) (n := n) (fun a h0 => ?_) (fun p hp h0 a ho => ?_) hn ho
  · simp only [h.zero hn0] at h0
    have := (has_pow 0 a).1 (by simpa using h0)
    exact this
  · rw [← hf p (hn p hp) h0 hp, has_flowAt] at ho
    rcases ho with ⟨_, ho⟩ | ho
    · exact .inr fun q hq hqp hqr => ho q (hbk p q (hn p hp) hq hqp) ((hR q hq).2 hqr)
    · exact .inl ho
end AG
end

section
set_option linter.unusedVariables false
set_option linter.unusedSimpArgs false
/-! The search that colours. No program in sight. -/
namespace AG
variable {nx : Nat → List Nat}
/-- What come(p) has made of the colours and of what was found. -/
structure ColP (nx : Nat → List Nat) (n : Nat) (st st' : Nat → Nat) (found found' : Bool) (p : Nat) : Prop where
  went : Went st st'
  done : st' p = 2
  kept : found = true → found' = true
  cyc : found' = true → Cyc nx
  order : found' = false → ∃ l, Topo nx l ∧ (∀ q, q ∈ l ↔ q < n ∧ st' q = 2)
/-- What its loop has made, these places having been looked at; st0: p is open. -/
structure ColL (nx : Nat → List Nat) (n : Nat) (st0 st' : Nat → Nat) (found found' : Bool) (l : List Nat) : Prop where
  went : Went st0 st'
  kept : found = true → found' = true
  cyc : found' = true → Cyc nx
  order : found' = false → ∃ l, Topo nx l ∧ (∀ q, q ∈ l ↔ q < n ∧ st' q = 2)
  dones : found' = false → ∀ q, q ∈ l → st' q = 2
theorem ColL.start {n : Nat} {st : Nat → Nat} {found : Bool} {p : Nat} (h : Col nx n st found p) (h0 : st p = 0) : ColL nx n (setAt st p 1) (setAt st p 1) found found [] :=
  ⟨.refl _, id, h.cyc, (h.opened h0).2, fun _ _ h => (by cases h)⟩
/-- An open place is looked at: something is found. -/
theorem ColL.opens {n : Nat} {st st' : Nat → Nat} {found found' : Bool} {p q : Nat} {l : List Nat} (hp : Col nx n st found p) (h0 : st p = 0) (h : ColL nx n (setAt st p 1) st' found found' l) (hq : q ∈ nx p) (ho : st' q = 1) :
    ColL nx n (setAt st p 1) st' found true (l ++ [q]) where
  went := h.went
  kept _ := rfl
  cyc _ := ⟨p, q, hp.reach, hq, (hp.opened h0).1 q ((h.went.opens q).1 ho)⟩
  order e := by cases e
  dones e := by cases e
/-- A place that is done is looked at. -/
theorem ColL.skips {n : Nat} {st0 st' : Nat → Nat} {found found' : Bool} {q : Nat} {l : List Nat} (h : ColL nx n st0 st' found found' l) (hd : st' q = 2) : ColL nx n st0 st' found found' (l ++ [q]) where
  went := h.went
  kept := h.kept
  cyc := h.cyc
  order := h.order
  dones e r hr := by
    rcases List.mem_append.1 hr with hr | hr
    · exact h.dones e r hr
    · obtain rfl := List.mem_singleton.1 hr; exact hd
/-- Before a fresh place is come to. -/
theorem ColL.before {n : Nat} {st st' : Nat → Nat} {found found' : Bool} {p q : Nat} {l : List Nat} (hp : Col nx n st found p) (h0 : st p = 0) (h : ColL nx n (setAt st p 1) st' found found' l) (hq : q ∈ nx p) : Col nx n st' found' q where
  opens r hr := ((hp.opened h0).1 r ((h.went.opens r).1 hr)).step hq trivial
  reach := hp.reach.step hq trivial
  cyc := h.cyc
  order := h.order
/-- Behind it. -/
theorem ColL.came {n : Nat} {st0 st' st'' : Nat → Nat} {found found' found'' : Bool} {q : Nat} {l : List Nat} (h : ColL nx n st0 st' found found' l) (k : ColP nx n st' st'' found' found'' q) : ColL nx n st0 st'' found found'' (l ++ [q]) where
  went := h.went.trans k.went
  kept e := k.kept (h.kept e)
  cyc := k.cyc
  order := k.order
  dones e r hr := by
    rcases List.mem_append.1 hr with hr | hr
    · have : found' = false := by
        cases hf : found' with
        | false => rfl
        | true => rw [k.kept hf] at e; cases e
      exact k.went.dones r (h.dones this r hr)
    · obtain rfl := List.mem_singleton.1 hr; exact k.done
/-- p is closed. -/
theorem ColL.finish {n : Nat} {st st' : Nat → Nat} {found found' : Bool} {p : Nat} (h0 : st p = 0) (hpn : p < n) (hlt : ∀ q, q ∈ nx p → q < n) (h : ColL nx n (setAt st p 1) st' found found' (nx p)) :
    ColP nx n st (setAt st' p 2) found found' p where
  went := by
    have h1 := h.went
    refine ⟨fun q => ?_, fun q hq => ?_, fun q hq => ?_⟩
    · have := h1.opens q
      unfold setAt at this ⊢
      by_cases e : q = p
      · subst e; simp [h0]
      · simpa [e] using this
    · have := h1.dones q
      unfold setAt at this ⊢
      by_cases e : q = p
      · simp [e]
      · simp only [e, if_false] at this ⊢; exact this hq
    · have := h1.kinds q
      unfold setAt at this ⊢
      by_cases e : q = p
      · simp [e]
      · simp only [e, if_false] at this ⊢; exact this hq
  done := by simp [setAt]
  kept := h.kept
  cyc := h.cyc
  order e := by
    obtain ⟨l, hl, hm⟩ := h.order e
    have hp1 : st' p = 1 := (h.went.opens p).2 (by simp [setAt])
    exact ⟨_, topo_closed hl hm hp1 hpn hlt (h.dones e)⟩
/-- From fresh colours on: what is found is whether something goes round. -/
theorem ColP.all {n : Nat} {st' : Nat → Nat} {found : Bool} (hn : 0 < n) (h : ColP nx n (fun _ => 0) st' false found 0) : found = true ↔ Cyc nx := by
  refine ⟨h.cyc, fun hc => ?_⟩
  cases hf : found with
  | true => rfl
  | false =>
    obtain ⟨l, hl, hm⟩ := h.order hf
    exact absurd hc (not_cyc_of_topo hl ((hm 0).2 ⟨hn, h.done⟩))
theorem Col.first (n : Nat) : Col nx n (fun _ => 0) false 0 where
  opens q h := by cases h
  reach := .here trivial
  cyc h := by cases h
  order _ := ⟨[], .nil, fun q => by simp⟩
end AG
end

section
set_option linter.unusedVariables false
set_option linter.unusedSimpArgs false
/-! A loop, looked at from both sides. No program in sight. -/
namespace AG
variable {nx bk : Nat → List Nat} {ok : Nat → Prop}
theorem Rch.reached {p b : Nat} (hp : Reached nx p) (h : Rch nx ok p b) : Rch nx (fun q => ok q ∧ Reached nx q) p b := by
  induction h with
  | here h => exact .here ⟨h, hp⟩
  | step _ hc ho ih => exact .step ih hc ⟨ho, ih.ok_to.2.step hc trivial⟩
/-- The loop of a way back from b to h: from behind, as from ahead. -/
theorem loop_iff {n h b p : Nat} (hbk : ∀ p q, p < n → q < n → (q ∈ bk p ↔ p ∈ nx q)) (hlb : ∀ p q, p < n → q ∈ bk p → q < n) (hln : ∀ p q, p < n → q ∈ nx p → q < n)
    (hb : b < n) (hp : p < n) (hbr : Reached nx b) (hd : Dom nx h b) :
    (p = h ∨ Rch bk (fun q => q ≠ h ∧ Reached nx q) b p) ↔ InLoop nx h b p := by
  constructor
  · rintro (rfl | hr)
    · exact ⟨dom_reached hbr hd, .inl rfl⟩
    · have := (rch_back hbk hlb hb hr).2
      exact ⟨this.ok_from.2, .inr (.inr (this.weaken fun _ h => h.1))⟩
  · rintro ⟨hpr, rfl | rfl | hr⟩
    · exact .inl rfl
    · by_cases e : b = h
      · exact .inl e
      · exact .inr (.here ⟨e, hbr⟩)
    · exact .inr (rch_forth hbk hln hp (hr.reached hpr)).2
end AG
end
