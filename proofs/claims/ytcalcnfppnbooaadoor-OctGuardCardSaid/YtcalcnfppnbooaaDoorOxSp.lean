import Derived.Test.YtcalcnfppnbooaaDoorOxEb
/- Words that make a long printed text shorter. -/
set_option linter.unusedVariables false
namespace Go.Proofs.Rcg
open Go Go.RowKit Go.Proofs.YtcalcnfppnbooaaDoorW.PrintWords Go.Proofs.YtcalcnfppnbooaaDoorW.PrintLast Go.Proofs.YtcalcnfppnbooaaDoorW.PrintMore

theorem sp : (∀ (a : Act) (d : Nat) (v : Value), a.put (some d) v = { a with tmps := a.tmps.setIfInBounds d v }) ∧ (∀ (l : List Value) (i : Nat) (v : Value), l.toArray.setIfInBounds i v = (l.set i v).toArray) ∧
    (∀ (x : Value) (l : List Value) (v : Value), (x :: l).set 0 v = v :: l) ∧ (∀ (x : Value) (l : List Value) (n : Nat) (v : Value), (x :: l).set (n + 1) v = x :: l.set n v) ∧
    (∀ n : Int, IntKind.i64.wrap n = wrap64 n) ∧ ∀ n : Int, IntKind.i32.wrap n = wrap32 n :=
  ⟨fun _ _ _ => rfl, fun _ _ _ => by simp, fun _ _ _ => rfl, fun _ _ _ _ => rfl, Go.Proofs.YtcalcnfppnbooaaDoorW.PrintLast.i64_w, Go.Proofs.YtcalcnfppnbooaaDoorW.PrintLast.i32_w⟩
/-- A row's fact, at a world behind allocations and draws. -/
theorem rk {P Q : Prop} (h : Aside0 P) (f : P → Q := by intro h_; (with_reducible repeat (first | apply Kd.R_alloc | apply Kd.R_drewN | apply Kd.R_drew)); exact h_) : Q := f h.out
/-- So many of so many are told. -/
@[reducible] def bm (k n : Nat) : Array Bool := (List.replicate k true ++ List.replicate (n - k) false).toArray
theorem od {p : Prop} [Decidable p] (h : decide p = true := by first | (with_reducible assumption) | assumption) : p := of_decide_eq_true h
theorem sz {w W : World} {g : Nat} (hg : g = W.heap.size) (h : Below w.heap.size w W) : w.heap.size ≤ g := by rw [hg]; exact h.size
theorem nl {W0 W1 : World} {a g : Nat} {o : Obj} (h : Aside0 (W0.heap[a]? = some o)) (hg : g = W1.heap.size) (hs : W0.heap[a]? = some o → W1.heap[a]? = some o := by intro h_; (with_reducible repeat (first | refine blk_drewN ?_ _ | refine blk_drew ?_ | refine blk_alloc ?_ _)); exact h_) : a ≠ g := by rw [hg]; exact Nat.ne_of_lt (blk_lt (hs h.out))
theorem pff {p : Prop} (h : p := by (with_reducible repeat (first | refine blk_drewN ?_ _ | refine blk_drew ?_ | refine blk_alloc ?_ _)); refine blk_far ?_ (Aside0.out (by assumption)) _; (with_reducible repeat (first | refine blk_drewN ?_ _ | refine blk_drew ?_ | refine blk_alloc ?_ _)); refine blk_far ?_ (Aside0.out (by assumption)) _; (with_reducible repeat (first | refine blk_drewN ?_ _ | refine blk_drew ?_ | refine blk_alloc ?_ _)); exact Aside0.out (by assumption)) : p := h
end Go.Proofs.Rcg
