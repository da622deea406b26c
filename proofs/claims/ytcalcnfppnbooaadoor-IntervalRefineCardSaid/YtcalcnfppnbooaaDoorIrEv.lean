import Derived.RowKit
/- Plain law: what a function with rounds tells once there are enough of them. No program. -/
namespace Go.Proofs.Rcp

/-- With enough rounds it tells r. -/
def Ev {α : Type} (g : Nat → Option α) (r : α) : Prop := ∃ K, ∀ k, K ≤ k → g k = some r
section
variable {α β : Type} {g h : Nat → Option α} {r : α}
theorem Ev.of (e : ∀ k, g k = some r) : Ev g r := ⟨0, fun k _ => e k⟩
theorem Ev.some : Ev (fun _ => some r) r := .of fun _ => rfl
theorem Ev.bind {f : Nat → α → Option β} {x : α} {r : β} (e : Ev g x) (k : Ev (fun n => f n x) r) : Ev (fun n => (g n).bind (f n)) r := by
  obtain ⟨K, hK⟩ := e
  obtain ⟨M, hM⟩ := k
  exact ⟨max K M, fun n hn => by show (g n).bind (f n) = _; rw [hK n (by omega), Option.bind_some]; exact hM n (by omega)⟩
theorem Ev.step (hs : ∀ k, g (k + 1) = h k) (e : Ev h r) : Ev g r := by
  obtain ⟨K, hK⟩ := e
  exact ⟨K + 1, fun n hn => by obtain ⟨m, rfl⟩ : ∃ m, n = m + 1 := ⟨n - 1, by omega⟩; rw [hs]; exact hK m (by omega)⟩
theorem Ev.same (hs : ∀ k, g k = h k) (e : Ev h r) : Ev g r := by
  obtain ⟨K, hK⟩ := e
  exact ⟨K, fun n hn => by rw [hs]; exact hK n hn⟩
theorem Ev.at (e : Ev g r) : ∃ k, g k = Option.some r := by
  obtain ⟨K, hK⟩ := e
  exact ⟨K, hK K (Nat.le_refl _)⟩
theorem Ev.ite {c : Prop} [Decidable c] (a : c → Ev g r) (b : ¬ c → Ev h r) : Ev (fun n => if c then g n else h n) r := by
  by_cases e : c
  · simpa only [if_pos e] using a e
  · simpa only [if_neg e] using b e
theorem Ev.pos {c : Prop} [Decidable c] (e : c) (a : Ev g r) : Ev (fun n => if c then g n else h n) r := .ite (fun _ => a) fun h => absurd e h
theorem Ev.neg {c : Prop} [Decidable c] (e : ¬ c) (b : Ev h r) : Ev (fun n => if c then g n else h n) r := .ite (fun h => absurd h e) fun _ => b
end
theorem Ev.mono {α : Type} {g : Nat → Option α} {r : α} (hm : ∀ k r, g k = Option.some r → g (k + 1) = Option.some r) {k : Nat} (e : g k = Option.some r) : Ev g r :=
  ⟨k, fun n hn => by
    induction hn with
    | refl => exact e
    | step _ ih => exact hm _ _ ih⟩
end Go.Proofs.Rcp
