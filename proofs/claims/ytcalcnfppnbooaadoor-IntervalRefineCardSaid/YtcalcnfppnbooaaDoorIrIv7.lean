import Derived.Test.YtcalcnfppnbooaaDoorIrIv6
set_option linter.unusedVariables false
set_option linter.unusedSimpArgs false
namespace Go.Proofs.Rcn
open Go Go.RowKit

def NearI (x : Int) : Prop := -4398046511104 ≤ x ∧ x ≤ 4398046511104

theorem iclip_ex (d u : Bool) (l k : Int) (w : World) :
    Calls Tryd.prog 100 #[.agg #[.bool d, .bool u, .int .i64 l, .int .i64 k]] w fun e w' => ∃ J, e = .returned (ivV J) ∧ Hid (J = ivClip ⟨d, u, l, k⟩) ∧ Below w.heap.size w w' :=
  (iclip_any d u l k w).mono fun e w' h => ⟨_, h.1, rfl, h.2⟩

set_option maxRecDepth 100000 in
set_option maxHeartbeats 4000000 in
theorem iadd_any (d u : Bool) (l k : Int) (d' u' : Bool) (l' k' : Int) (w : World) (n1 : NearI l) (n2 : NearI k) (n3 : NearI l') (n4 : NearI k') :
    Calls Tryd.prog 131 #[.agg #[.bool d, .bool u, .int .i64 l, .int .i64 k], .agg #[.bool d', .bool u', .int .i64 l', .int .i64 k']] w fun e w' => e = .returned (ivV (ivAdd ⟨d, u, l, k⟩ ⟨d', u', l', k'⟩)) ∧ Below w.heap.size w w' := by
  obtain ⟨n11, n12⟩ := n1
  obtain ⟨n21, n22⟩ := n2
  obtain ⟨n31, n32⟩ := n3
  obtain ⟨n41, n42⟩ := n4
  cases d <;> cases u <;> cases d' <;> cases u'
  all_goals
    go_enter Tryd.func131, Tryd.ntmps131
    go_wp2_with fail
    refine (iclip_ex _ _ _ _ _).mono ?_
    rintro e w1 ⟨J, rfl, HJ, hb⟩
    obtain ⟨hc, hf⟩ := bcell hb
    have hz3 : w.heap.size + 1 + 1 + 1 < w1.heap.size := by have := hb.size; simp at this; omega
    have hz2 : w.heap.size + 1 + 1 < w1.heap.size := by omega
    have hz1 : w.heap.size + 1 < w1.heap.size := by omega
    have hz0 : w.heap.size < w1.heap.size := by omega
    go_wp2
    refine bodyPost_ret (v := ivV J) (by simp [results, Tryd.results131, go_sem, hc, hz2]) rfl ⟨by rw [HJ.out]; rfl, ?_⟩
    repeat (first | refine below_then ?_ hb | exact Below.refl _ _ | refine below_alloc ?_ _ | refine below_drew ?_ | refine below_drewN ?_ _ | refine below_set ?_ (by simp; try omega) _)
end Go.Proofs.Rcn
