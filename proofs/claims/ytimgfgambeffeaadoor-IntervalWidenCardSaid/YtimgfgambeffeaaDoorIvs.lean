/- Plain law: intervals: join, widened over and over. No program. -/
namespace Go.Proofs.Rcn

structure Iv where (down : Bool) (up : Bool) (low : Int) (high : Int) deriving DecidableEq

def farB (n : Int) : Bool := decide (n > 1099511627776) || decide (n < -1099511627776)
def ivValid (a : Iv) : Nat :=
  if ((a.down && a.low != 0) || (a.up && a.high != 0) || (!a.down && !a.up && decide (a.low > a.high))) = true then 3
  else if (farB a.low || farB a.high) = true then 2 else 0
def ivTwo (a b : Iv) : Nat := if ivValid a = 0 then ivValid b else ivValid a
def ivJoin (a b : Iv) : Iv := ⟨a.down || b.down, a.up || b.up, if (a.down || b.down) = true then 0 else min a.low b.low, if (a.up || b.up) = true then 0 else max a.high b.high⟩
def ivWithin (a b : Iv) : Bool := (b.down || (!a.down && decide (a.low ≥ b.low))) && (b.up || (!a.up && decide (a.high ≤ b.high)))

/-- One stop more, downward and upward. -/
def lowStop (b : Iv) (x : Bool × Int) (s : Int) : Bool × Int := if (!b.down && decide (s ≤ b.low) && (x.1 || decide (s > x.2))) = true then (false, s) else x
def highStop (b : Iv) (x : Bool × Int) (s : Int) : Bool × Int := if (!b.up && decide (s ≥ b.high) && (x.1 || decide (s < x.2))) = true then (false, s) else x
def lowOf (b : Iv) (stops : List Int) : Bool × Int := stops.foldl (lowStop b) (true, 0)
def highOf (b : Iv) (stops : List Int) : Bool × Int := stops.foldl (highStop b) (true, 0)
def goesLow (a b : Iv) : Bool := !a.down && (b.down || decide (b.low < a.low))
def goesHigh (a b : Iv) : Bool := !a.up && (b.up || decide (b.high > a.high))
def ivWiden (a b : Iv) (stops : List Int) : Iv :=
  ⟨if goesLow a b = true then (lowOf b stops).1 else a.down, if goesHigh a b = true then (highOf b stops).1 else a.up,
   if goesLow a b = true then (lowOf b stops).2 else a.low, if goesHigh a b = true then (highOf b stops).2 else a.high⟩

theorem foldl_ind {α β : Type} {f : β → α → β} {P : β → Prop} : ∀ (l : List α) (x : β), P x → (∀ y a, a ∈ l → P y → P (f y a)) → P (l.foldl f x)
  | [], _, h, _ => h
  | a :: l, x, h, hs => foldl_ind l (f x a) (hs x a (by simp) h) fun y b hb => hs y b (by simp [hb])

theorem lowOf_spec (b : Iv) (stops : List Int) : ((lowOf b stops).1 = true ∧ (lowOf b stops).2 = 0) ∨ ((lowOf b stops).1 = false ∧ (lowOf b stops).2 ∈ stops ∧ (lowOf b stops).2 ≤ b.low ∧ b.down = false) := by
  refine foldl_ind (P := fun x => (x.1 = true ∧ x.2 = 0) ∨ (x.1 = false ∧ x.2 ∈ stops ∧ x.2 ≤ b.low ∧ b.down = false)) stops (true, 0) (.inl ⟨rfl, rfl⟩) ?_
  intro y s hs hy
  unfold lowStop
  split
  · rename_i h
    simp only [Bool.and_eq_true, Bool.not_eq_true', decide_eq_true_eq] at h
    exact .inr ⟨rfl, hs, h.1.2, h.1.1⟩
  · exact hy
theorem highOf_spec (b : Iv) (stops : List Int) : ((highOf b stops).1 = true ∧ (highOf b stops).2 = 0) ∨ ((highOf b stops).1 = false ∧ (highOf b stops).2 ∈ stops ∧ b.high ≤ (highOf b stops).2 ∧ b.up = false) := by
  refine foldl_ind (P := fun x => (x.1 = true ∧ x.2 = 0) ∨ (x.1 = false ∧ x.2 ∈ stops ∧ b.high ≤ x.2 ∧ b.up = false)) stops (true, 0) (.inl ⟨rfl, rfl⟩) ?_
  intro y s hs hy
  unfold highStop
  split
  · rename_i h
    simp only [Bool.and_eq_true, Bool.not_eq_true', decide_eq_true_eq] at h
    exact .inr ⟨rfl, hs, h.1.2, h.1.1⟩
  · exact hy

/-- How often the lower end, and the upper one, can still change. -/
def leftLow (stops : List Int) (a : Iv) : Nat := if a.down = true then 0 else 1 + (stops.filter fun s => decide (s < a.low)).length
def leftHigh (stops : List Int) (a : Iv) : Nat := if a.up = true then 0 else 1 + (stops.filter fun s => decide (s > a.high)).length

theorem filter_lt {α : Type} {p q : α → Bool} (h : ∀ x, p x = true → q x = true) : ∀ {l : List α} {a : α}, a ∈ l → p a = false → q a = true → (l.filter p).length < (l.filter q).length := by
  have le : ∀ l : List α, (l.filter p).length ≤ (l.filter q).length := by
    intro l
    induction l with
    | nil => simp
    | cons b l ih =>
      simp only [List.filter_cons]
      have := h b
      cases hp : p b <;> cases hq : q b <;> simp_all <;> omega
  intro l
  induction l with
  | nil => intro a ha; simp at ha
  | cons b l ih =>
    intro a ha hp hq
    simp only [List.filter_cons]
    rcases List.mem_cons.1 ha with rfl | ha
    · have := le l
      simp [hp, hq]
      omega
    · have := ih ha hp hq
      have h' := h b
      cases hp : p b <;> cases hq : q b <;> simp_all <;> omega

theorem left_le (stops : List Int) (a : Iv) : leftLow stops a ≤ stops.length + 1 ∧ leftHigh stops a ≤ stops.length + 1 := by
  unfold leftLow leftHigh
  have h1 := List.length_filter_le (fun s => decide (s < a.low)) stops
  have h2 := List.length_filter_le (fun s => decide (s > a.high)) stops
  constructor <;> split <;> omega

theorem low_less {a b : Iv} {stops : List Int} (h : goesLow a b = true) : leftLow stops (ivWiden a b stops) < leftLow stops a := by
  have h' := h
  simp only [goesLow, Bool.and_eq_true, Bool.not_eq_true', Bool.or_eq_true, decide_eq_true_eq] at h'
  unfold leftLow ivWiden
  simp only [h, if_true]
  rw [if_neg (show ¬ a.down = true by simp [h'.1])]
  rcases lowOf_spec b stops with ⟨h1, _⟩ | ⟨h1, h2, h3, h4⟩
  · rw [if_pos h1]; omega
  · rw [if_neg (by simp [h1])]
    have hb : b.low < a.low := by
      rcases h'.2 with h5 | h5
      · rw [h4] at h5; cases h5
      · exact h5
    have := filter_lt (p := fun s => decide (s < (lowOf b stops).2)) (q := fun s => decide (s < a.low)) (fun x hx => by simp at hx ⊢; omega) h2 (by simp) (by simp; omega)
    omega
theorem high_less {a b : Iv} {stops : List Int} (h : goesHigh a b = true) : leftHigh stops (ivWiden a b stops) < leftHigh stops a := by
  have h' := h
  simp only [goesHigh, Bool.and_eq_true, Bool.not_eq_true', Bool.or_eq_true, decide_eq_true_eq] at h'
  unfold leftHigh ivWiden
  simp only [h, if_true]
  rw [if_neg (show ¬ a.up = true by simp [h'.1])]
  rcases highOf_spec b stops with ⟨h1, _⟩ | ⟨h1, h2, h3, h4⟩
  · rw [if_pos h1]; omega
  · rw [if_neg (by simp [h1])]
    have hb : b.high > a.high := by
      rcases h'.2 with h5 | h5
      · rw [h4] at h5; cases h5
      · exact h5
    have := filter_lt (p := fun s => decide (s > (highOf b stops).2)) (q := fun s => decide (s > a.high)) (fun x hx => by simp at hx ⊢; omega) h2 (by simp) (by simp; omega)
    omega

theorem low_same {a b : Iv} {stops : List Int} (h : goesLow a b = false) : leftLow stops (ivWiden a b stops) = leftLow stops a := by
  unfold leftLow ivWiden; simp [h]
theorem high_same {a b : Iv} {stops : List Int} (h : goesHigh a b = false) : leftHigh stops (ivWiden a b stops) = leftHigh stops a := by
  unfold leftHigh ivWiden; simp [h]

/-- Each change is one of so many. -/
theorem widen_less (a b : Iv) (stops : List Int) (h : ivWiden a b stops ≠ a) : leftLow stops (ivWiden a b stops) + leftHigh stops (ivWiden a b stops) < leftLow stops a + leftHigh stops a := by
  rcases h1 : goesLow a b with _ | _ <;> rcases h2 : goesHigh a b with _ | _
  · exact absurd (by simp [ivWiden, h1, h2]) h
  · have := high_less (stops := stops) h2; have := low_same (stops := stops) h1; omega
  · have := high_same (stops := stops) h2; have := low_less (stops := stops) h1; omega
  · have := high_less (stops := stops) h2; have := low_less (stops := stops) h1; omega

theorem farB_iff {n : Int} : farB n = false ↔ n ≤ 1099511627776 ∧ -1099511627776 ≤ n := by
  unfold farB
  simp only [Bool.or_eq_false_iff, decide_eq_false_iff_not]
  omega

theorem ivValid_iff {a : Iv} : ivValid a = 0 ↔ ((a.down = true → a.low = 0) ∧ (a.up = true → a.high = 0) ∧ (a.down = false → a.up = false → a.low ≤ a.high)) ∧ farB a.low = false ∧ farB a.high = false := by
  unfold ivValid
  obtain ⟨d, u, l, h⟩ := a
  simp only
  split
  · rename_i c
    refine ⟨fun e => (by cases e), fun e => ?_⟩
    exfalso
    cases d <;> cases u <;> simp at c e <;> omega
  · rename_i c
    split
    · rename_i c2
      refine ⟨fun e => (by cases e), fun e => ?_⟩
      simp [e.2.1, e.2.2] at c2
    · rename_i c2
      simp only [Bool.or_eq_true, not_or, Bool.not_eq_true] at c2
      refine ⟨fun _ => ⟨?_, c2⟩, fun _ => rfl⟩
      cases d <;> cases u <;> simp at c ⊢ <;> omega

theorem join_valid {a b : Iv} (ha : ivValid a = 0) (hb : ivValid b = 0) : ivValid (ivJoin a b) = 0 := by
  rw [ivValid_iff] at ha hb ⊢
  simp only [farB_iff] at ha hb ⊢
  obtain ⟨d, u, l, h⟩ := a
  obtain ⟨d', u', l', h'⟩ := b
  cases d <;> cases u <;> cases d' <;> cases u' <;> simp [ivJoin] at ha hb ⊢ <;> omega

theorem widen_valid {a b : Iv} {stops : List Int} (ha : ivValid a = 0) (hb : ivValid b = 0) (hs : ∀ s ∈ stops, farB s = false) : ivValid (ivWiden a b stops) = 0 := by
  have hl := lowOf_spec b stops
  have hh := highOf_spec b stops
  have hsl := hs (lowOf b stops).2
  have hsh := hs (highOf b stops).2
  rw [ivValid_iff] at ha hb ⊢
  simp only [farB_iff] at ha hb hsl hsh ⊢
  unfold ivWiden goesLow goesHigh
  generalize lowOf b stops = p at *
  generalize highOf b stops = q at *
  obtain ⟨d, u, l, h⟩ := a
  obtain ⟨d', u', l', h'⟩ := b
  obtain ⟨p1, p2⟩ := p
  obtain ⟨q1, q2⟩ := q
  simp only at *
  cases d <;> cases u <;> cases d' <;> cases u' <;> cases p1 <;> cases q1 <;> simp at ha hb hl hh hsl hsh ⊢ <;> (repeat' split) <;> simp_all <;> omega

theorem widen_within {a b : Iv} {stops : List Int} : ivWithin b (ivWiden a b stops) = true := by
  have hl := lowOf_spec b stops
  have hh := highOf_spec b stops
  unfold ivWithin ivWiden goesLow goesHigh
  generalize lowOf b stops = p at *
  generalize highOf b stops = q at *
  obtain ⟨d, u, l, h⟩ := a
  obtain ⟨d', u', l', h'⟩ := b
  obtain ⟨p1, p2⟩ := p
  obtain ⟨q1, q2⟩ := q
  simp only at *
  cases d <;> cases u <;> cases d' <;> cases u' <;> cases p1 <;> cases q1 <;> simp at hl hh ⊢ <;> (repeat' split) <;> simp_all <;> omega

end Go.Proofs.Rcn
