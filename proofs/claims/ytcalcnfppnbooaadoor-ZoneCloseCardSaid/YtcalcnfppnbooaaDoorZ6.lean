-- Written by wip/xprint.py (the session's program over the kit's print).
import Derived.Test.YtcalcnfppnbooaaDoorEb
import Derived.Test.YtcalcnfppnbooaaDoorZ0
namespace Go.Proofs.YtcalcnfppnbooaaDoor.Z
open Go.RowKit Go.Proofs.YtcalcnfppnbooaaDoorW.PrintWords Go.Proofs.YtcalcnfppnbooaaDoorW.PrintLast Go.Proofs.YtcalcnfppnbooaaDoorW.PrintMore Go.Proofs.Rcg
attribute [local go_sem] max2_int min2_int max_two min_two max_three min_three max_four min_four   -- for this text's walks alone
set_option linter.unusedVariables false
set_option linter.unusedSimpArgs false

/-! ### R2_lower: function 90 -/
def R2_lower.f (l0 : List (S67)) (a1 : Int) (a2 : Int) : Option (Bool × (List (S67))) := if 0 ≤ a1 then (if a1 < (l0.length : Int) then (if (rd_T67 l0 a1).f0 = true then (if ((rd_T67 l0 a1).f1) ≤ a2 then (some (false, l0)) else (some (true, (l0.set (a1 : Int).toNat (⟨true, a2⟩ : S67))))) else (some (true, (l0.set (a1 : Int).toNat (⟨true, a2⟩ : S67))))) else (none)) else (none)
set_option maxHeartbeats 8000000 in
set_option maxRecDepth 100000 in
theorem R2_lower.calls [EA] (P0_ : Nat → Prop) (u9000_ : Value) (l0 : List (S67)) (a1 : Int) (a2 : Int) (r1 : Bool) (r2 : List (S67)) (w0 w : World) (hB : Below w0.heap.size w0 w) (ho0 : Kd.R k67 67 w w0.heap.size P0_ u9000_ l0) (h : R2_lower.f l0 a1 a2 = some (r1, r2)) :
  Calls Tryd.prog 90 #[u9000_, .int .i64 a1, .int .i64 a2] w fun e w' => e = .returned (.bool r1) ∧ Kd.R k67 67 w' w0.heap.size (fun k_ => (P0_ k_ ∨ w.heap.size ≤ k_)) u9000_ r2 ∧ Below w0.heap.size w0 w' ∧ Kept w w' (fun k_ => P0_ k_) := by
 have hu67 := Tryd.underlying67
 have HO0 := am (show Kd.R k67 67 w w0.heap.size (fun k_ => (P0_ k_ ∨ w.heap.size ≤ k_)) u9000_ l0 from Kd.R_mono ho0 (fun k_ hk => (.inl hk)))
 have HK := am (Kept.refl w (fun k_ => P0_ k_))
 have HW0 := am hB.size
 have HB := am hB
 clear hB
 have H : (if 0 ≤ a1 then (if a1 < (l0.length : Int) then (if (rd_T67 l0 a1).f0 = true then (if ((rd_T67 l0 a1).f1) ≤ a2 then (some (false, l0)) else (some (true, (l0.set (a1 : Int).toNat (⟨true, a2⟩ : S67))))) else (some (true, (l0.set (a1 : Int).toNat (⟨true, a2⟩ : S67))))) else (none)) else (none)) = some (r1, r2) := h
 clear h
 by_cases c4 : 0 ≤ a1
 ·rw [if_pos c4] at H
  have c4b0 : decide (0 ≤ a1) = true := decide_eq_true c4
  clear c4
  by_cases c5 : a1 < (l0.length : Int)
  ·rw [if_pos c5] at H
   have c5b0 : decide (a1 < (l0.length : Int)) = true := decide_eq_true c5
   clear c5
   obtain ⟨bq6, hbq6⟩ : ∃ b_ : Bool, b_ = ((rd_T67 l0 a1).f0) := ⟨_, rfl⟩
   replace H : (if bq6 = true then (if ((rd_T67 l0 a1).f1) ≤ a2 then (some (false, l0)) else (some (true, (l0.set (a1 : Int).toNat (⟨true, a2⟩ : S67))))) else (some (true, (l0.set (a1 : Int).toNat (⟨true, a2⟩ : S67))))) = some (r1, r2) := by rw [← hbq6] at H; exact H
   have Nbq6 := am hbq6
   clear hbq6
   by_cases c7 : bq6 = true
   ·subst c7
    have H1 : (if ((rd_T67 l0 a1).f1) ≤ a2 then (some (false, l0)) else (some (true, (l0.set (a1 : Int).toNat (⟨true, a2⟩ : S67))))) = some (r1, r2) := by rw [if_pos rfl] at H; exact H
    clear H
    have H := H1
    clear H1
    by_cases c8 : ((rd_T67 l0 a1).f1) ≤ a2
    ·rw [if_pos c8] at H
     have c8b0 : decide (((rd_T67 l0 a1).f1) ≤ a2) = true := decide_eq_true c8
     clear c8
     simp only [Option.some.injEq, Prod.mk.injEq] at H
     obtain ⟨rfl, rfl⟩ := H
     obtain ⟨Ao9, co9, eo9⟩ := Kd.R_slice HO0.out
     subst eo9
     have p177 : 0 ≤ (a1 : Int) := of_decide_eq_true (by first | (with_reducible assumption) | assumption)
     have q177 : a1 < (l0.length : Int) := of_decide_eq_true (by first | (with_reducible assumption) | assumption)
     obtain ⟨ad177, e177, hx177_0, hx177_1⟩ := at_T67 (Kd.R_reads' HO0.out).2.2 a1 p177 q177
     (try rw [← Nbq6.out] at hx177_0)
     cases e177
     replace p177 := eq_true p177
     replace q177 := eq_true q177
     have p178 : 0 ≤ (a1 : Int) := of_decide_eq_true (by first | (with_reducible assumption) | assumption)
     have q178 : a1 < (l0.length : Int) := of_decide_eq_true (by first | (with_reducible assumption) | assumption)
     obtain ⟨ad178, e178, hx178_0, hx178_1⟩ := at_T67 (Kd.R_reads' HO0.out).2.2 a1 p178 q178
     (try rw [← Nbq6.out] at hx178_0)
     obtain rfl : ad177 = ad178 := (by injection e178)
     replace p178 := eq_true p178
     replace q178 := eq_true q178
     go_enter Tryd.func90, Tryd.ntmps90
     go_wp2
     go_ret
     exact ⟨pe, by (with_reducible repeat (first | apply Kd.R_alloc | apply Kd.R_drewN | apply Kd.R_drew)); exact HO0.out, pw, by repeat (first | (with_reducible first | exact HK.out | apply Kept.alloc | apply Kept.drewN | apply Kept.drew) | exact HK.out)⟩
    rw [if_neg c8] at H
    have c8b0 : decide (((rd_T67 l0 a1).f1) ≤ a2) = false := decide_eq_false c8
    clear c8
    obtain ⟨y179, hy179⟩ : ∃ y_ : List (S67), y_ = (l0.set (a1 : Int).toNat (⟨true, a2⟩ : S67)) := ⟨_, rfl⟩
    replace H : (some (true, y179)) = some (r1, r2) := by first | (rw [hy179]; with_reducible exact H) | (have H2_ := (Option.bind_some _ _).symm.trans H; rw [hy179]; with_reducible exact H2_) | (have H2_ := (Option.bind_some _ _).symm.trans H; with_reducible exact H2_) | with_reducible exact H | (rw [hy179]; exact H) | exact H
    have Ny179 := am hy179
    clear hy179
    simp only [Option.some.injEq, Prod.mk.injEq] at H
    obtain ⟨rfl, rfl⟩ := H
    obtain ⟨Ao11, co11, eo11⟩ := Kd.R_slice HO0.out
    subst eo11
    have p177 : 0 ≤ (a1 : Int) := of_decide_eq_true (by first | (with_reducible assumption) | assumption)
    have q177 : a1 < (l0.length : Int) := of_decide_eq_true (by first | (with_reducible assumption) | assumption)
    obtain ⟨ad177, e177, hx177_0, hx177_1⟩ := at_T67 (Kd.R_reads' HO0.out).2.2 a1 p177 q177
    (try rw [← Nbq6.out] at hx177_0)
    cases e177
    replace p177 := eq_true p177
    replace q177 := eq_true q177
    have p178 : 0 ≤ (a1 : Int) := of_decide_eq_true (by first | (with_reducible assumption) | assumption)
    have q178 : a1 < (l0.length : Int) := of_decide_eq_true (by first | (with_reducible assumption) | assumption)
    obtain ⟨ad178, e178, hx178_0, hx178_1⟩ := at_T67 (Kd.R_reads' HO0.out).2.2 a1 p178 q178
    (try rw [← Nbq6.out] at hx178_0)
    obtain rfl : ad177 = ad178 := (by injection e178)
    replace p178 := eq_true p178
    replace q178 := eq_true q178
    have p10 : 0 ≤ (a1 : Int) := of_decide_eq_true (by first | (with_reducible assumption) | assumption)
    have q10 : (a1 : Int) < ((l0.length : Int) : Int) := of_decide_eq_true (by first | (with_reducible assumption) | assumption)
    obtain ⟨go10, co10, eo10, gb10, gl10, cl10, HG10⟩ := Kd.R_form HO0.out (by omega)
    (first | cases eo10 | (injection eo10 with ea_ en_ ec_; (first | subst ea_ | (injection ea_ with ea_; subst ea_)); subst ec_; clear en_))
    have GB10 := am gb10
    have GG10 := am HG10
    clear gb10 gl10 HG10
    have HMgo10 := am (show (P0_ go10 ∨ w.heap.size ≤ go10) from (HO0.out.1 _ rfl))
    (first | simp only [add_plain] at hx177_0 | skip)
    (first | simp only [add_plain] at hx177_1 | skip)
    (first | simp only [add_plain] at hx178_0 | skip)
    (first | simp only [add_plain] at hx178_1 | skip)
    obtain ⟨ce10, hcl10, hM10, hcc10, hfr10⟩ := Kd.R_elem HO0.out z67 (a1 : Int) p10 q10
    obtain rfl := k67_openM hM10
    have hx10_0 : w.cell? ⟨go10, (a1 : Int).toNat * 2, none⟩ = some (.bool ((rd_T67 l0 a1).f0)) := hcc10 0 _ rfl
    have hx10_1 : w.cell? ⟨go10, (a1 : Int).toNat * 2 + 1, none⟩ = some (.int .i64 ((rd_T67 l0 a1).f1)) := hcc10 1 _ rfl
    have hf10_0 : w.frozen? ⟨go10, (a1 : Int).toNat * 2, none⟩ = false := hfr10 0
    have hf10_1 : w.frozen? ⟨go10, (a1 : Int).toNat * 2 + 1, none⟩ = false := hfr10 1
    clear hcl10 hcc10 hfr10 hM10
    replace p10 := eq_true p10
    replace q10 := eq_true q10
    have HX12 := am (show Kd.R k67 67 w w0.heap.size (fun k_ => (P0_ k_ ∨ w.heap.size ≤ k_)) (.slice (some ⟨go10, 0, none⟩) l0.length co11) l0 from (by (with_reducible repeat (first | apply Kd.R_alloc | apply Kd.R_drewN | apply Kd.R_drew)); exact HO0.out))
    obtain ⟨ce12, hcl12, hM12, hcc12, hfr12⟩ := Kd.R_elem HX12.out z67 (a1 : Int) (of_decide_eq_true (by first | (with_reducible assumption) | assumption)) (by have h_ : (a1 : Int) < ((l0.length : Int) : Int) := of_decide_eq_true (by first | (with_reducible assumption) | assumption); first | exact h_ | (have e_ := (Kd.R_reads' HO0.out).1; omega) | simpa using h_)
    obtain rfl := k67_openM hM12
    have HP12 := Kd.R_seg HX12.out (a1 : Int) (of_decide_eq_true (by first | (with_reducible assumption) | assumption)) (by have h_ : (a1 : Int) < ((l0.length : Int) : Int) := of_decide_eq_true (by first | (with_reducible assumption) | assumption); first | exact h_ | (have e_ := (Kd.R_reads' HO0.out).1; omega) | simpa using h_) (seg := [.bool true, .int .i64 a2]) (j := 0) hcl12 hcc12 (show 2 ≤ 2 from by decide) (x' := (⟨true, a2⟩ : S67)) (k67_mkM _ _ _ (⟨true, a2⟩ : S67) ) (fun _ hk => hk)
    have hx12_0 := hcc12 0 _ rfl
    (try simp only [show (k67).sz = 2 from rfl, Nat.mul_one, Nat.add_zero] at hx12_0)
    have hf12_0 := hfr12 0
    (try simp only [show (k67).sz = 2 from rfl, Nat.mul_one, Nat.add_zero] at hf12_0)
    have hx12_1 := hcc12 1 _ rfl
    (try simp only [show (k67).sz = 2 from rfl, Nat.mul_one, Nat.add_zero] at hx12_1)
    have hf12_1 := hfr12 1
    (try simp only [show (k67).sz = 2 from rfl, Nat.mul_one, Nat.add_zero] at hf12_1)
    clear hcl12 hcc12 hfr12 hM12
    go_enter Tryd.func90, Tryd.ntmps90
    go_wp2_with (first | ((with_reducible refine gate_store (t := 67) (p := 25) rfl ?_); refine store_event (t := 67) (p := 25) (v := ?vo_w13) (w1 := ((w.setCell ⟨go10, (a1 : Int).toNat * 2, none⟩ (.bool true)).setCell ⟨go10, (a1 : Int).toNat * 2 + 1, none⟩ (.int .i64 a2))) ?hg ?ho ?hn ?hr ?_; (case ho => rfl); (case hg => rfl); (case hn => rfl); (case hr => first | (go_simp; done) | (go_simp; rfl)); intro w13 hw; have hg : w.grownBy w13 (some go10) := (by rw [hw]; exact HP12.2); have hp_ : Kd.R k67 67 w13 w0.heap.size (fun k_ => (P0_ k_ ∨ w.heap.size ≤ k_)) (.slice (some ⟨go10, 0, none⟩) l0.length co11) y179 := (by rw [hw, Ny179.out]; exact HP12.1); clear HP12; have n0_ := am (hp_); have n1_ := am ((by rw [hw]; exact below_set (below_set (HB.out) GB10.out) GB10.out : Below w0.heap.size w0 w13)); have n2_ := am (Kept.of_grown (S := (fun k_ => P0_ k_)) hg (by repeat (first | (with_reducible first | exact HK.out | apply Kept.alloc | apply Kept.drewN | apply Kept.drew) | exact HK.out)) (fun k_ e_ => (HO0.out.1 k_ e_))); clear HO0; clear HB; clear HK; have HO0 := n0_; have HB := n1_; have HK := n2_; clear n0_ n1_ n2_; clear hg hw hp_))
    go_ret
    exact ⟨pe, by (with_reducible repeat (first | apply Kd.R_alloc | apply Kd.R_drewN | apply Kd.R_drew)); exact HO0.out, pw, by repeat (first | (with_reducible first | exact HK.out | apply Kept.alloc | apply Kept.drewN | apply Kept.drew) | exact HK.out)⟩
   replace c7 := Bool.eq_false_iff.mpr c7
   subst c7
   have H1 : (some (true, (l0.set (a1 : Int).toNat (⟨true, a2⟩ : S67)))) = some (r1, r2) := by rw [if_neg (show ¬ (false = true) by decide)] at H; exact H
   clear H
   have H := H1
   clear H1
   obtain ⟨y180, hy180⟩ : ∃ y_ : List (S67), y_ = (l0.set (a1 : Int).toNat (⟨true, a2⟩ : S67)) := ⟨_, rfl⟩
   replace H : (some (true, y180)) = some (r1, r2) := by first | (rw [hy180]; with_reducible exact H) | (have H2_ := (Option.bind_some _ _).symm.trans H; rw [hy180]; with_reducible exact H2_) | (have H2_ := (Option.bind_some _ _).symm.trans H; with_reducible exact H2_) | with_reducible exact H | (rw [hy180]; exact H) | exact H
   have Ny180 := am hy180
   clear hy180
   simp only [Option.some.injEq, Prod.mk.injEq] at H
   obtain ⟨rfl, rfl⟩ := H
   obtain ⟨Ao15, co15, eo15⟩ := Kd.R_slice HO0.out
   subst eo15
   have p177 : 0 ≤ (a1 : Int) := of_decide_eq_true (by first | (with_reducible assumption) | assumption)
   have q177 : a1 < (l0.length : Int) := of_decide_eq_true (by first | (with_reducible assumption) | assumption)
   obtain ⟨ad177, e177, hx177_0, hx177_1⟩ := at_T67 (Kd.R_reads' HO0.out).2.2 a1 p177 q177
   (try rw [← Nbq6.out] at hx177_0)
   cases e177
   replace p177 := eq_true p177
   replace q177 := eq_true q177
   have p14 : 0 ≤ (a1 : Int) := of_decide_eq_true (by first | (with_reducible assumption) | assumption)
   have q14 : (a1 : Int) < ((l0.length : Int) : Int) := of_decide_eq_true (by first | (with_reducible assumption) | assumption)
   obtain ⟨go14, co14, eo14, gb14, gl14, cl14, HG14⟩ := Kd.R_form HO0.out (by omega)
   (first | cases eo14 | (injection eo14 with ea_ en_ ec_; (first | subst ea_ | (injection ea_ with ea_; subst ea_)); subst ec_; clear en_))
   have GB14 := am gb14
   have GG14 := am HG14
   clear gb14 gl14 HG14
   have HMgo14 := am (show (P0_ go14 ∨ w.heap.size ≤ go14) from (HO0.out.1 _ rfl))
   (first | simp only [add_plain] at hx177_0 | skip)
   (first | simp only [add_plain] at hx177_1 | skip)
   obtain ⟨ce14, hcl14, hM14, hcc14, hfr14⟩ := Kd.R_elem HO0.out z67 (a1 : Int) p14 q14
   obtain rfl := k67_openM hM14
   have hx14_0 : w.cell? ⟨go14, (a1 : Int).toNat * 2, none⟩ = some (.bool ((rd_T67 l0 a1).f0)) := hcc14 0 _ rfl
   have hx14_1 : w.cell? ⟨go14, (a1 : Int).toNat * 2 + 1, none⟩ = some (.int .i64 ((rd_T67 l0 a1).f1)) := hcc14 1 _ rfl
   have hf14_0 : w.frozen? ⟨go14, (a1 : Int).toNat * 2, none⟩ = false := hfr14 0
   have hf14_1 : w.frozen? ⟨go14, (a1 : Int).toNat * 2 + 1, none⟩ = false := hfr14 1
   clear hcl14 hcc14 hfr14 hM14
   replace p14 := eq_true p14
   replace q14 := eq_true q14
   have HX16 := am (show Kd.R k67 67 w w0.heap.size (fun k_ => (P0_ k_ ∨ w.heap.size ≤ k_)) (.slice (some ⟨go14, 0, none⟩) l0.length co15) l0 from (by (with_reducible repeat (first | apply Kd.R_alloc | apply Kd.R_drewN | apply Kd.R_drew)); exact HO0.out))
   obtain ⟨ce16, hcl16, hM16, hcc16, hfr16⟩ := Kd.R_elem HX16.out z67 (a1 : Int) (of_decide_eq_true (by first | (with_reducible assumption) | assumption)) (by have h_ : (a1 : Int) < ((l0.length : Int) : Int) := of_decide_eq_true (by first | (with_reducible assumption) | assumption); first | exact h_ | (have e_ := (Kd.R_reads' HO0.out).1; omega) | simpa using h_)
   obtain rfl := k67_openM hM16
   have HP16 := Kd.R_seg HX16.out (a1 : Int) (of_decide_eq_true (by first | (with_reducible assumption) | assumption)) (by have h_ : (a1 : Int) < ((l0.length : Int) : Int) := of_decide_eq_true (by first | (with_reducible assumption) | assumption); first | exact h_ | (have e_ := (Kd.R_reads' HO0.out).1; omega) | simpa using h_) (seg := [.bool true, .int .i64 a2]) (j := 0) hcl16 hcc16 (show 2 ≤ 2 from by decide) (x' := (⟨true, a2⟩ : S67)) (k67_mkM _ _ _ (⟨true, a2⟩ : S67) ) (fun _ hk => hk)
   have hx16_0 := hcc16 0 _ rfl
   (try simp only [show (k67).sz = 2 from rfl, Nat.mul_one, Nat.add_zero] at hx16_0)
   have hf16_0 := hfr16 0
   (try simp only [show (k67).sz = 2 from rfl, Nat.mul_one, Nat.add_zero] at hf16_0)
   have hx16_1 := hcc16 1 _ rfl
   (try simp only [show (k67).sz = 2 from rfl, Nat.mul_one, Nat.add_zero] at hx16_1)
   have hf16_1 := hfr16 1
   (try simp only [show (k67).sz = 2 from rfl, Nat.mul_one, Nat.add_zero] at hf16_1)
   clear hcl16 hcc16 hfr16 hM16
   go_enter Tryd.func90, Tryd.ntmps90
   go_wp2_with (first | ((with_reducible refine gate_store (t := 67) (p := 25) rfl ?_); refine store_event (t := 67) (p := 25) (v := ?vo_w17) (w1 := ((w.setCell ⟨go14, (a1 : Int).toNat * 2, none⟩ (.bool true)).setCell ⟨go14, (a1 : Int).toNat * 2 + 1, none⟩ (.int .i64 a2))) ?hg ?ho ?hn ?hr ?_; (case ho => rfl); (case hg => rfl); (case hn => rfl); (case hr => first | (go_simp; done) | (go_simp; rfl)); intro w17 hw; have hg : w.grownBy w17 (some go14) := (by rw [hw]; exact HP16.2); have hp_ : Kd.R k67 67 w17 w0.heap.size (fun k_ => (P0_ k_ ∨ w.heap.size ≤ k_)) (.slice (some ⟨go14, 0, none⟩) l0.length co15) y180 := (by rw [hw, Ny180.out]; exact HP16.1); clear HP16; have n0_ := am (hp_); have n1_ := am ((by rw [hw]; exact below_set (below_set (HB.out) GB14.out) GB14.out : Below w0.heap.size w0 w17)); have n2_ := am (Kept.of_grown (S := (fun k_ => P0_ k_)) hg (by repeat (first | (with_reducible first | exact HK.out | apply Kept.alloc | apply Kept.drewN | apply Kept.drew) | exact HK.out)) (fun k_ e_ => (HO0.out.1 k_ e_))); clear HO0; clear HB; clear HK; have HO0 := n0_; have HB := n1_; have HK := n2_; clear n0_ n1_ n2_; clear hg hw hp_))
   go_ret
   exact ⟨pe, by (with_reducible repeat (first | apply Kd.R_alloc | apply Kd.R_drewN | apply Kd.R_drew)); exact HO0.out, pw, by repeat (first | (with_reducible first | exact HK.out | apply Kept.alloc | apply Kept.drewN | apply Kept.drew) | exact HK.out)⟩
  rw [if_neg c5] at H
  exact absurd H (by simp)
 rw [if_neg c4] at H
 exact absurd H (by simp)

/-! ### R2_clip: function 91 -/
def R2_clip.l0 : Nat → List (S67) → Int → Option ((List (S67)))
 | 0, _, _ => none
 | k + 1, x0, x2 => if x2 < (x0.length : Int) then (if 0 ≤ x2 then (if ((rd_T67 x0 x2).f1) > 1099511627776 then ((some (x0.set (x2 : Int).toNat (⟨false, 0⟩ : S67) : List (S67))).bind fun y182 => (if ((rd_T67 y182 x2).f1) < (-1099511627776) then (R2_clip.l0 k (y182.set (x2 : Int).toNat (⟨(rd_T67 y182 x2).f0, (-1099511627776)⟩ : S67)) (wrap64 (x2 + 1))) else (R2_clip.l0 k y182 (wrap64 (x2 + 1))))) else (if ((rd_T67 x0 x2).f1) < (-1099511627776) then (R2_clip.l0 k (x0.set (x2 : Int).toNat (⟨(rd_T67 x0 x2).f0, (-1099511627776)⟩ : S67)) (wrap64 (x2 + 1))) else (R2_clip.l0 k x0 (wrap64 (x2 + 1))))) else (none)) else (some x0)
def R2_clip.f (k : Nat) (l0 : List (S67)) : Option ((List (S67))) := R2_clip.l0 k l0 0
theorem R2_clip.mono_l : ∀ k, (∀ y0 y1, LeO (R2_clip.l0 k y0 y1) (R2_clip.l0 (k + 1) y0 y1))
 | 0 => fun _ _ r h => by simp [R2_clip.l0] at h
 | k + 1 => by
  have ih0 := R2_clip.mono_l k
  intro y0 y1
  unfold R2_clip.l0
  repeat' first
  | (with_reducible exact ih0 _ _)
  | (with_reducible exact LeO.refl _)
  | (with_reducible exact LeO.none _)
  | (with_reducible refine LeO.ite ?_ ?_)
  | (with_reducible refine LeO.bind ?_ (fun _ => ?_))
  | exact ih0 _ _
  | exact LeO.none _
  | refine LeO.ite ?_ ?_
  | refine LeO.bind ?_ (fun _ => ?_)
theorem R2_clip.mono : ∀ a0 k, LeO (R2_clip.f k a0) (R2_clip.f (k + 1) a0) := by
 intro a0 k
 have ih0 := R2_clip.mono_l k
 unfold R2_clip.f
 repeat' first
   | (with_reducible exact ih0 _ _)
   | (with_reducible exact LeO.refl _)
   | (with_reducible exact LeO.none _)
   | (with_reducible refine LeO.ite ?_ ?_)
   | (with_reducible refine LeO.bind ?_ (fun _ => ?_))
   | exact ih0 _ _
   | exact LeO.none _
   | refine LeO.ite ?_ ?_
   | refine LeO.bind ?_ (fun _ => ?_)
set_option maxHeartbeats 8000000 in
set_option maxRecDepth 100000 in
theorem R2_clip.calls [EA] (k : Nat) (P0_ : Nat → Prop) (u9000_ : Value) (l0 : List (S67)) (r : List (S67)) (w0 w : World) (hB : Below w0.heap.size w0 w) (ho0 : Kd.R k67 67 w w0.heap.size P0_ u9000_ l0) (h : R2_clip.f k l0 = some r) :
  Calls Tryd.prog 91 #[u9000_] w fun e w' => e = .returned (.tuple #[]) ∧ Kd.R k67 67 w' w0.heap.size (fun k_ => (P0_ k_ ∨ w.heap.size ≤ k_)) u9000_ r ∧ Below w0.heap.size w0 w' ∧ Kept w w' (fun k_ => P0_ k_) := by
 have hu67 := Tryd.underlying67
 have HO0 := am (show Kd.R k67 67 w w0.heap.size (fun k_ => (P0_ k_ ∨ w.heap.size ≤ k_)) u9000_ l0 from Kd.R_mono ho0 (fun k_ hk => (.inl hk)))
 have HK := am (Kept.refl w (fun k_ => P0_ k_))
 have HW0 := am hB.size
 have HB := am hB
 clear hB
 have H : (R2_clip.l0 k l0 0) = some r := h
 clear h
 have H' := am H
 clear H
 go_enter Tryd.func91, Tryd.ntmps91
 go_wp2
 go_loopg [2] k (fun kq v2 w' => ∃ (x0_1 : List (S67)) (x2_1 : Int), v2 = .int .i64 x2_1 ∧ Aside0 (R2_clip.l0 kq x0_1 x2_1 = some r) ∧ Aside0 (kq ≤ k) ∧ Aside0 (Kd.R k67 67 w' w0.heap.size (fun k_ => (P0_ k_ ∨ w.heap.size ≤ k_)) u9000_ x0_1) ∧ Aside0 (Kept w w' (fun k_ => P0_ k_)) ∧ Aside0 (Below w0.heap.size w0 w'))
 case atStart => exact ⟨(l0), (0), pr, H', ⟨Nat.le_refl _⟩, ⟨by (with_reducible repeat (first | apply Kd.R_alloc | apply Kd.R_drewN | apply Kd.R_drew)); exact HO0.out⟩, ⟨by repeat (first | (with_reducible first | exact HK.out | apply Kept.alloc | apply Kept.drewN | apply Kept.drew) | exact HK.out)⟩, ⟨pw⟩⟩
 case round =>
  clear H'
  obtain ⟨x0_1, x2_1, rfl, HA, HK1, HO_0, HK, HB⟩ := hrel
  cases gk with
  | zero => exact absurd HA.out (by simp [R2_clip.l0])
  | succ k1 =>
   have H := HA.out
   clear HA
   simp only [R2_clip.l0] at H
   by_cases c2 : x2_1 < (x0_1.length : Int)
   ·rw [if_pos c2] at H
    have c2b0 : decide (x2_1 < (x0_1.length : Int)) = true := decide_eq_true c2
    clear c2
    by_cases c3 : 0 ≤ x2_1
    ·rw [if_pos c3] at H
     have c3b0 : decide (0 ≤ x2_1) = true := decide_eq_true c3
     clear c3
     by_cases c4 : ((rd_T67 x0_1 x2_1).f1) > 1099511627776
     ·rw [if_pos c4] at H
      have c4b0 : decide (1099511627776 < ((rd_T67 x0_1 x2_1).f1)) = true := decide_eq_true c4
      clear c4
      obtain ⟨y182, hy182⟩ : ∃ y_ : List (S67), y_ = (x0_1.set (x2_1 : Int).toNat (⟨false, 0⟩ : S67)) := ⟨_, rfl⟩
      replace H : (if ((rd_T67 y182 x2_1).f1) < (-1099511627776) then (R2_clip.l0 k1 (y182.set (x2_1 : Int).toNat (⟨(rd_T67 y182 x2_1).f0, (-1099511627776)⟩ : S67)) (wrap64 (x2_1 + 1))) else (R2_clip.l0 k1 y182 (wrap64 (x2_1 + 1)))) = some r := by first | (rw [hy182]; with_reducible exact H) | (have H2_ := (Option.bind_some _ _).symm.trans H; rw [hy182]; with_reducible exact H2_) | (have H2_ := (Option.bind_some _ _).symm.trans H; with_reducible exact H2_) | with_reducible exact H | (rw [hy182]; exact H) | exact H
      have Ny182 := am hy182
      clear hy182
      by_cases c6 : ((rd_T67 y182 x2_1).f1) < (-1099511627776)
      ·rw [if_pos c6] at H
       have c6b0 : decide (((rd_T67 y182 x2_1).f1) < (-1099511627776)) = true := decide_eq_true c6
       clear c6
       obtain ⟨y184, hy184⟩ : ∃ y_ : List (S67), y_ = (y182.set (x2_1 : Int).toNat (⟨(rd_T67 y182 x2_1).f0, (-1099511627776)⟩ : S67)) := ⟨_, rfl⟩
       replace H : (R2_clip.l0 k1 y184 (wrap64 (x2_1 + 1))) = some r := by first | (rw [hy184]; with_reducible exact H) | (have H2_ := (Option.bind_some _ _).symm.trans H; rw [hy184]; with_reducible exact H2_) | (have H2_ := (Option.bind_some _ _).symm.trans H; with_reducible exact H2_) | with_reducible exact H | (rw [hy184]; exact H) | exact H
       have Ny184 := am hy184
       clear hy184
       have H' := am H
       clear H
       obtain ⟨Ao8, co8, eo8⟩ := Kd.R_slice HO_0.out
       subst eo8
       have p181 : 0 ≤ (x2_1 : Int) := of_decide_eq_true (by first | (with_reducible assumption) | assumption)
       have q181 : x2_1 < (x0_1.length : Int) := of_decide_eq_true (by first | (with_reducible assumption) | assumption)
       obtain ⟨ad181, e181, hx181_0, hx181_1⟩ := at_T67 (Kd.R_reads' HO_0.out).2.2 x2_1 p181 q181
       cases e181
       replace p181 := eq_true p181
       replace q181 := eq_true q181
       have p5 : 0 ≤ (x2_1 : Int) := of_decide_eq_true (by first | (with_reducible assumption) | assumption)
       have q5 : (x2_1 : Int) < ((x0_1.length : Int) : Int) := of_decide_eq_true (by first | (with_reducible assumption) | assumption)
       obtain ⟨go5, co5, eo5, gb5, gl5, cl5, HG5⟩ := Kd.R_form HO_0.out (by omega)
       (first | cases eo5 | (injection eo5 with ea_ en_ ec_; (first | subst ea_ | (injection ea_ with ea_; subst ea_)); subst ec_; clear en_))
       have GB5 := am gb5
       have GG5 := am HG5
       clear gb5 gl5 HG5
       have HMgo5 := am (show (P0_ go5 ∨ w.heap.size ≤ go5) from (HO_0.out.1 _ rfl))
       (first | simp only [add_plain] at hx181_0 | skip)
       (first | simp only [add_plain] at hx181_1 | skip)
       obtain ⟨ce5, hcl5, hM5, hcc5, hfr5⟩ := Kd.R_elem HO_0.out z67 (x2_1 : Int) p5 q5
       obtain rfl := k67_openM hM5
       have hx5_0 : wr.cell? ⟨go5, (x2_1 : Int).toNat * 2, none⟩ = some (.bool ((rd_T67 x0_1 x2_1).f0)) := hcc5 0 _ rfl
       have hx5_1 : wr.cell? ⟨go5, (x2_1 : Int).toNat * 2 + 1, none⟩ = some (.int .i64 ((rd_T67 x0_1 x2_1).f1)) := hcc5 1 _ rfl
       have hf5_0 : wr.frozen? ⟨go5, (x2_1 : Int).toNat * 2, none⟩ = false := hfr5 0
       have hf5_1 : wr.frozen? ⟨go5, (x2_1 : Int).toNat * 2 + 1, none⟩ = false := hfr5 1
       clear hcl5 hcc5 hfr5 hM5
       replace p5 := eq_true p5
       replace q5 := eq_true q5
       have HX9 := am (show Kd.R k67 67 wr w0.heap.size (fun k_ => (P0_ k_ ∨ w.heap.size ≤ k_)) (.slice (some ⟨go5, 0, none⟩) x0_1.length co8) x0_1 from (by (with_reducible repeat (first | apply Kd.R_alloc | apply Kd.R_drewN | apply Kd.R_drew)); exact HO_0.out))
       obtain ⟨ce9, hcl9, hM9, hcc9, hfr9⟩ := Kd.R_elem HX9.out z67 (x2_1 : Int) (of_decide_eq_true (by first | (with_reducible assumption) | assumption)) (by have h_ : (x2_1 : Int) < ((x0_1.length : Int) : Int) := of_decide_eq_true (by first | (with_reducible assumption) | assumption); first | exact h_ | (have e_ := (Kd.R_reads' HO_0.out).1; omega) | simpa using h_)
       obtain rfl := k67_openM hM9
       have HP9 := Kd.R_seg HX9.out (x2_1 : Int) (of_decide_eq_true (by first | (with_reducible assumption) | assumption)) (by have h_ : (x2_1 : Int) < ((x0_1.length : Int) : Int) := of_decide_eq_true (by first | (with_reducible assumption) | assumption); first | exact h_ | (have e_ := (Kd.R_reads' HO_0.out).1; omega) | simpa using h_) (seg := [.bool false, .int .i64 0]) (j := 0) hcl9 hcc9 (show 2 ≤ 2 from by decide) (x' := (⟨false, 0⟩ : S67)) (k67_mkM _ _ _ (⟨false, 0⟩ : S67) ) (fun _ hk => hk)
       have hx9_0 := hcc9 0 _ rfl
       (try simp only [show (k67).sz = 2 from rfl, Nat.mul_one, Nat.add_zero] at hx9_0)
       have hf9_0 := hfr9 0
       (try simp only [show (k67).sz = 2 from rfl, Nat.mul_one, Nat.add_zero] at hf9_0)
       have hx9_1 := hcc9 1 _ rfl
       (try simp only [show (k67).sz = 2 from rfl, Nat.mul_one, Nat.add_zero] at hx9_1)
       have hf9_1 := hfr9 1
       (try simp only [show (k67).sz = 2 from rfl, Nat.mul_one, Nat.add_zero] at hf9_1)
       clear hcl9 hcc9 hfr9 hM9
       go_wp2_with (first | ((with_reducible refine gate_store (t := 67) (p := 18) rfl ?_); refine store_event (t := 67) (p := 18) (v := ?vo_w10) (w1 := ((wr.setCell ⟨go5, (x2_1 : Int).toNat * 2, none⟩ (.bool false)).setCell ⟨go5, (x2_1 : Int).toNat * 2 + 1, none⟩ (.int .i64 0))) ?hg ?ho ?hn ?hr ?_; (case ho => rfl); (case hg => rfl); (case hn => rfl); (case hr => first | (go_simp; done) | (go_simp; rfl)); intro w10 hw; have hg : wr.grownBy w10 (some go5) := (by rw [hw]; exact HP9.2); have hp_ : Kd.R k67 67 w10 w0.heap.size (fun k_ => (P0_ k_ ∨ w.heap.size ≤ k_)) (.slice (some ⟨go5, 0, none⟩) x0_1.length co8) y182 := (by rw [hw, Ny182.out]; exact HP9.1); clear HP9; have n0_ := am (hp_); have n1_ := am ((by rw [hw]; exact below_set (below_set (HB.out) GB5.out) GB5.out : Below w0.heap.size w0 w10)); have n2_ := am (Kept.of_grown (S := (fun k_ => P0_ k_)) hg (by repeat (first | (with_reducible first | exact HK.out | apply Kept.alloc | apply Kept.drewN | apply Kept.drew) | exact HK.out)) (fun k_ e_ => (HO_0.out.1 k_ e_))); clear HO_0; clear HB; clear HK; have HO_0 := n0_; have HB := n1_; have HK := n2_; clear n0_ n1_ n2_; clear hg hw hp_; have p183 : 0 ≤ (x2_1 : Int) := of_decide_eq_true (by first | (with_reducible assumption) | assumption); have q183 : x2_1 < (y182.length : Int) := (by have h_ : (x2_1 : Int) < ((x0_1.length : Int) : Int) := of_decide_eq_true (by first | (with_reducible assumption) | assumption); first | (have e_ := (Kd.R_reads' HO_0.out).1; omega) | simpa only [Ny182.out, List.length_set] using h_); have ql183 : ((x2_1 : Int) < ((x0_1.length : Int) : Int)) = True := eq_true (of_decide_eq_true (by first | (with_reducible assumption) | assumption)); obtain ⟨ad183, e183, hx183_0, hx183_1⟩ := at_T67 (Kd.R_reads' HO_0.out).2.2 x2_1 p183 q183; obtain rfl : (⟨go5, 0, none⟩ : Addr) = ad183 := (by injection e183); (first | simp only [add_plain] at hx183_0 | simp only [add_at] at hx183_0 | simp only [Addr.add, Nat.zero_add] at hx183_0 | skip); (first | simp only [add_plain] at hx183_1 | simp only [add_at] at hx183_1 | simp only [Addr.add, Nat.zero_add] at hx183_1 | skip); replace p183 := eq_true p183; replace q183 := eq_true q183; have p7 : 0 ≤ (x2_1 : Int) := of_decide_eq_true (by first | (with_reducible assumption) | assumption); have q7 : (x2_1 : Int) < ((x0_1.length : Int) : Int) := of_decide_eq_true (by first | (with_reducible assumption) | assumption); obtain ⟨ce7, hcl7, hM7, hcc7, hfr7⟩ := Kd.R_elem HO_0.out z67 (x2_1 : Int) p7 q7; obtain rfl := k67_openM hM7; have hx7_0 : w10.cell? ⟨go5, (x2_1 : Int).toNat * 2, none⟩ = some (.bool ((rd_T67 y182 x2_1).f0)) := hcc7 0 _ rfl; have hx7_1 : w10.cell? ⟨go5, (x2_1 : Int).toNat * 2 + 1, none⟩ = some (.int .i64 ((rd_T67 y182 x2_1).f1)) := hcc7 1 _ rfl; have hf7_0 : w10.frozen? ⟨go5, (x2_1 : Int).toNat * 2, none⟩ = false := hfr7 0; have hf7_1 : w10.frozen? ⟨go5, (x2_1 : Int).toNat * 2 + 1, none⟩ = false := hfr7 1; clear hcl7 hcc7 hfr7 hM7; replace p7 := eq_true p7; replace q7 := eq_true q7; have HX11 := am (show Kd.R k67 67 w10 w0.heap.size (fun k_ => (P0_ k_ ∨ w.heap.size ≤ k_)) (.slice (some ⟨go5, 0, none⟩) x0_1.length co8) y182 from (by (with_reducible repeat (first | apply Kd.R_alloc | apply Kd.R_drewN | apply Kd.R_drew)); exact HO_0.out)); obtain ⟨ce11, hcl11, hM11, hcc11, hfr11⟩ := Kd.R_elem HX11.out z67 (x2_1 : Int) (of_decide_eq_true (by first | (with_reducible assumption) | assumption)) (by have h_ : (x2_1 : Int) < ((x0_1.length : Int) : Int) := of_decide_eq_true (by first | (with_reducible assumption) | assumption); first | exact h_ | (have e_ := (Kd.R_reads' HO_0.out).1; omega) | simpa using h_); obtain rfl := k67_openM hM11; have HP11 := Kd.R_seg HX11.out (x2_1 : Int) (of_decide_eq_true (by first | (with_reducible assumption) | assumption)) (by have h_ : (x2_1 : Int) < ((x0_1.length : Int) : Int) := of_decide_eq_true (by first | (with_reducible assumption) | assumption); first | exact h_ | (have e_ := (Kd.R_reads' HO_0.out).1; omega) | simpa using h_) (seg := [.int .i64 (-1099511627776)]) (j := 1) hcl11 hcc11 (show 2 ≤ 2 from by decide) (x' := (⟨(rd_T67 y182 x2_1).f0, (-1099511627776)⟩ : S67)) (k67_mkM _ _ _ (⟨(rd_T67 y182 x2_1).f0, (-1099511627776)⟩ : S67) ) (fun _ hk => hk); have hx11_1 := hcc11 1 _ rfl; (try simp only [show (k67).sz = 2 from rfl, Nat.mul_one, Nat.add_zero] at hx11_1); have hf11_1 := hfr11 1; (try simp only [show (k67).sz = 2 from rfl, Nat.mul_one, Nat.add_zero] at hf11_1); clear hcl11 hcc11 hfr11 hM11) | ((with_reducible refine gate_store (t := 3) (p := 28) rfl ?_); refine store_event (t := 3) (p := 28) (v := ?vo_w12) (w1 := (w10.setCell ⟨go5, (x2_1 : Int).toNat * 2 + 1, none⟩ (.int .i64 (-1099511627776)))) ?hg ?ho ?hn ?hr ?_; (case ho => rfl); (case hg => rfl); (case hn => rfl); (case hr => first | (go_simp; done) | (go_simp; rfl)); intro w12 hw; have hg : w10.grownBy w12 (some go5) := (by rw [hw]; exact HP11.2); have hp_ : Kd.R k67 67 w12 w0.heap.size (fun k_ => (P0_ k_ ∨ w.heap.size ≤ k_)) (.slice (some ⟨go5, 0, none⟩) x0_1.length co8) y184 := (by rw [hw, Ny184.out]; exact HP11.1); clear HP11; have n0_ := am (hp_); have n1_ := am ((by rw [hw]; exact below_set (HB.out) GB5.out : Below w0.heap.size w0 w12)); have n2_ := am (Kept.of_grown (S := (fun k_ => P0_ k_)) hg (by repeat (first | (with_reducible first | exact HK.out | apply Kept.alloc | apply Kept.drewN | apply Kept.drew) | exact HK.out)) (fun k_ e_ => (HO_0.out.1 k_ e_))); clear HO_0; clear HB; clear HK; have HO_0 := n0_; have HB := n1_; have HK := n2_; clear n0_ n1_ n2_; clear hg hw hp_))
       go_roundg k1
       case measure => have := HK1.out; omega
       case rel => exact ⟨(y184), (wrap64 (x2_1 + 1)), pr, H', ⟨by have := HK1.out; omega⟩, ⟨by (with_reducible repeat (first | apply Kd.R_alloc | apply Kd.R_drewN | apply Kd.R_drew)); exact HO_0.out⟩, ⟨by repeat (first | (with_reducible first | exact HK.out | apply Kept.alloc | apply Kept.drewN | apply Kept.drew) | exact HK.out)⟩, ⟨pw⟩⟩
      rw [if_neg c6] at H
      have c6b0 : decide (((rd_T67 y182 x2_1).f1) < (-1099511627776)) = false := decide_eq_false c6
      clear c6
      have H' := am H
      clear H
      obtain ⟨Ao13, co13, eo13⟩ := Kd.R_slice HO_0.out
      subst eo13
      have p181 : 0 ≤ (x2_1 : Int) := of_decide_eq_true (by first | (with_reducible assumption) | assumption)
      have q181 : x2_1 < (x0_1.length : Int) := of_decide_eq_true (by first | (with_reducible assumption) | assumption)
      obtain ⟨ad181, e181, hx181_0, hx181_1⟩ := at_T67 (Kd.R_reads' HO_0.out).2.2 x2_1 p181 q181
      cases e181
      replace p181 := eq_true p181
      replace q181 := eq_true q181
      have p5 : 0 ≤ (x2_1 : Int) := of_decide_eq_true (by first | (with_reducible assumption) | assumption)
      have q5 : (x2_1 : Int) < ((x0_1.length : Int) : Int) := of_decide_eq_true (by first | (with_reducible assumption) | assumption)
      obtain ⟨go5, co5, eo5, gb5, gl5, cl5, HG5⟩ := Kd.R_form HO_0.out (by omega)
      (first | cases eo5 | (injection eo5 with ea_ en_ ec_; (first | subst ea_ | (injection ea_ with ea_; subst ea_)); subst ec_; clear en_))
      have GB5 := am gb5
      have GG5 := am HG5
      clear gb5 gl5 HG5
      have HMgo5 := am (show (P0_ go5 ∨ w.heap.size ≤ go5) from (HO_0.out.1 _ rfl))
      (first | simp only [add_plain] at hx181_0 | skip)
      (first | simp only [add_plain] at hx181_1 | skip)
      obtain ⟨ce5, hcl5, hM5, hcc5, hfr5⟩ := Kd.R_elem HO_0.out z67 (x2_1 : Int) p5 q5
      obtain rfl := k67_openM hM5
      have hx5_0 : wr.cell? ⟨go5, (x2_1 : Int).toNat * 2, none⟩ = some (.bool ((rd_T67 x0_1 x2_1).f0)) := hcc5 0 _ rfl
      have hx5_1 : wr.cell? ⟨go5, (x2_1 : Int).toNat * 2 + 1, none⟩ = some (.int .i64 ((rd_T67 x0_1 x2_1).f1)) := hcc5 1 _ rfl
      have hf5_0 : wr.frozen? ⟨go5, (x2_1 : Int).toNat * 2, none⟩ = false := hfr5 0
      have hf5_1 : wr.frozen? ⟨go5, (x2_1 : Int).toNat * 2 + 1, none⟩ = false := hfr5 1
      clear hcl5 hcc5 hfr5 hM5
      replace p5 := eq_true p5
      replace q5 := eq_true q5
      have HX14 := am (show Kd.R k67 67 wr w0.heap.size (fun k_ => (P0_ k_ ∨ w.heap.size ≤ k_)) (.slice (some ⟨go5, 0, none⟩) x0_1.length co13) x0_1 from (by (with_reducible repeat (first | apply Kd.R_alloc | apply Kd.R_drewN | apply Kd.R_drew)); exact HO_0.out))
      obtain ⟨ce14, hcl14, hM14, hcc14, hfr14⟩ := Kd.R_elem HX14.out z67 (x2_1 : Int) (of_decide_eq_true (by first | (with_reducible assumption) | assumption)) (by have h_ : (x2_1 : Int) < ((x0_1.length : Int) : Int) := of_decide_eq_true (by first | (with_reducible assumption) | assumption); first | exact h_ | (have e_ := (Kd.R_reads' HO_0.out).1; omega) | simpa using h_)
      obtain rfl := k67_openM hM14
      have HP14 := Kd.R_seg HX14.out (x2_1 : Int) (of_decide_eq_true (by first | (with_reducible assumption) | assumption)) (by have h_ : (x2_1 : Int) < ((x0_1.length : Int) : Int) := of_decide_eq_true (by first | (with_reducible assumption) | assumption); first | exact h_ | (have e_ := (Kd.R_reads' HO_0.out).1; omega) | simpa using h_) (seg := [.bool false, .int .i64 0]) (j := 0) hcl14 hcc14 (show 2 ≤ 2 from by decide) (x' := (⟨false, 0⟩ : S67)) (k67_mkM _ _ _ (⟨false, 0⟩ : S67) ) (fun _ hk => hk)
      have hx14_0 := hcc14 0 _ rfl
      (try simp only [show (k67).sz = 2 from rfl, Nat.mul_one, Nat.add_zero] at hx14_0)
      have hf14_0 := hfr14 0
      (try simp only [show (k67).sz = 2 from rfl, Nat.mul_one, Nat.add_zero] at hf14_0)
      have hx14_1 := hcc14 1 _ rfl
      (try simp only [show (k67).sz = 2 from rfl, Nat.mul_one, Nat.add_zero] at hx14_1)
      have hf14_1 := hfr14 1
      (try simp only [show (k67).sz = 2 from rfl, Nat.mul_one, Nat.add_zero] at hf14_1)
      clear hcl14 hcc14 hfr14 hM14
      go_wp2_with (first | ((with_reducible refine gate_store (t := 67) (p := 18) rfl ?_); refine store_event (t := 67) (p := 18) (v := ?vo_w15) (w1 := ((wr.setCell ⟨go5, (x2_1 : Int).toNat * 2, none⟩ (.bool false)).setCell ⟨go5, (x2_1 : Int).toNat * 2 + 1, none⟩ (.int .i64 0))) ?hg ?ho ?hn ?hr ?_; (case ho => rfl); (case hg => rfl); (case hn => rfl); (case hr => first | (go_simp; done) | (go_simp; rfl)); intro w15 hw; have hg : wr.grownBy w15 (some go5) := (by rw [hw]; exact HP14.2); have hp_ : Kd.R k67 67 w15 w0.heap.size (fun k_ => (P0_ k_ ∨ w.heap.size ≤ k_)) (.slice (some ⟨go5, 0, none⟩) x0_1.length co13) y182 := (by rw [hw, Ny182.out]; exact HP14.1); clear HP14; have n0_ := am (hp_); have n1_ := am ((by rw [hw]; exact below_set (below_set (HB.out) GB5.out) GB5.out : Below w0.heap.size w0 w15)); have n2_ := am (Kept.of_grown (S := (fun k_ => P0_ k_)) hg (by repeat (first | (with_reducible first | exact HK.out | apply Kept.alloc | apply Kept.drewN | apply Kept.drew) | exact HK.out)) (fun k_ e_ => (HO_0.out.1 k_ e_))); clear HO_0; clear HB; clear HK; have HO_0 := n0_; have HB := n1_; have HK := n2_; clear n0_ n1_ n2_; clear hg hw hp_; have p183 : 0 ≤ (x2_1 : Int) := of_decide_eq_true (by first | (with_reducible assumption) | assumption); have q183 : x2_1 < (y182.length : Int) := (by have h_ : (x2_1 : Int) < ((x0_1.length : Int) : Int) := of_decide_eq_true (by first | (with_reducible assumption) | assumption); first | (have e_ := (Kd.R_reads' HO_0.out).1; omega) | simpa only [Ny182.out, List.length_set] using h_); have ql183 : ((x2_1 : Int) < ((x0_1.length : Int) : Int)) = True := eq_true (of_decide_eq_true (by first | (with_reducible assumption) | assumption)); obtain ⟨ad183, e183, hx183_0, hx183_1⟩ := at_T67 (Kd.R_reads' HO_0.out).2.2 x2_1 p183 q183; obtain rfl : (⟨go5, 0, none⟩ : Addr) = ad183 := (by injection e183); (first | simp only [add_plain] at hx183_0 | simp only [add_at] at hx183_0 | simp only [Addr.add, Nat.zero_add] at hx183_0 | skip); (first | simp only [add_plain] at hx183_1 | simp only [add_at] at hx183_1 | simp only [Addr.add, Nat.zero_add] at hx183_1 | skip); replace p183 := eq_true p183; replace q183 := eq_true q183))
      go_roundg k1
      case measure => have := HK1.out; omega
      case rel => exact ⟨(y182), (wrap64 (x2_1 + 1)), pr, H', ⟨by have := HK1.out; omega⟩, ⟨by (with_reducible repeat (first | apply Kd.R_alloc | apply Kd.R_drewN | apply Kd.R_drew)); exact HO_0.out⟩, ⟨by repeat (first | (with_reducible first | exact HK.out | apply Kept.alloc | apply Kept.drewN | apply Kept.drew) | exact HK.out)⟩, ⟨pw⟩⟩
     rw [if_neg c4] at H
     have c4b0 : decide (1099511627776 < ((rd_T67 x0_1 x2_1).f1)) = false := decide_eq_false c4
     clear c4
     by_cases c16 : ((rd_T67 x0_1 x2_1).f1) < (-1099511627776)
     ·rw [if_pos c16] at H
      have c16b0 : decide (((rd_T67 x0_1 x2_1).f1) < (-1099511627776)) = true := decide_eq_true c16
      clear c16
      obtain ⟨y186, hy186⟩ : ∃ y_ : List (S67), y_ = (x0_1.set (x2_1 : Int).toNat (⟨(rd_T67 x0_1 x2_1).f0, (-1099511627776)⟩ : S67)) := ⟨_, rfl⟩
      replace H : (R2_clip.l0 k1 y186 (wrap64 (x2_1 + 1))) = some r := by first | (rw [hy186]; with_reducible exact H) | (have H2_ := (Option.bind_some _ _).symm.trans H; rw [hy186]; with_reducible exact H2_) | (have H2_ := (Option.bind_some _ _).symm.trans H; with_reducible exact H2_) | with_reducible exact H | (rw [hy186]; exact H) | exact H
      have Ny186 := am hy186
      clear hy186
      have H' := am H
      clear H
      obtain ⟨Ao18, co18, eo18⟩ := Kd.R_slice HO_0.out
      subst eo18
      have p181 : 0 ≤ (x2_1 : Int) := of_decide_eq_true (by first | (with_reducible assumption) | assumption)
      have q181 : x2_1 < (x0_1.length : Int) := of_decide_eq_true (by first | (with_reducible assumption) | assumption)
      obtain ⟨ad181, e181, hx181_0, hx181_1⟩ := at_T67 (Kd.R_reads' HO_0.out).2.2 x2_1 p181 q181
      cases e181
      replace p181 := eq_true p181
      replace q181 := eq_true q181
      have p185 : 0 ≤ (x2_1 : Int) := of_decide_eq_true (by first | (with_reducible assumption) | assumption)
      have q185 : x2_1 < (x0_1.length : Int) := of_decide_eq_true (by first | (with_reducible assumption) | assumption)
      obtain ⟨ad185, e185, hx185_0, hx185_1⟩ := at_T67 (Kd.R_reads' HO_0.out).2.2 x2_1 p185 q185
      obtain rfl : ad181 = ad185 := (by injection e185)
      replace p185 := eq_true p185
      replace q185 := eq_true q185
      have p17 : 0 ≤ (x2_1 : Int) := of_decide_eq_true (by first | (with_reducible assumption) | assumption)
      have q17 : (x2_1 : Int) < ((x0_1.length : Int) : Int) := of_decide_eq_true (by first | (with_reducible assumption) | assumption)
      obtain ⟨go17, co17, eo17, gb17, gl17, cl17, HG17⟩ := Kd.R_form HO_0.out (by omega)
      (first | cases eo17 | (injection eo17 with ea_ en_ ec_; (first | subst ea_ | (injection ea_ with ea_; subst ea_)); subst ec_; clear en_))
      have GB17 := am gb17
      have GG17 := am HG17
      clear gb17 gl17 HG17
      have HMgo17 := am (show (P0_ go17 ∨ w.heap.size ≤ go17) from (HO_0.out.1 _ rfl))
      (first | simp only [add_plain] at hx181_0 | skip)
      (first | simp only [add_plain] at hx181_1 | skip)
      (first | simp only [add_plain] at hx185_0 | skip)
      (first | simp only [add_plain] at hx185_1 | skip)
      obtain ⟨ce17, hcl17, hM17, hcc17, hfr17⟩ := Kd.R_elem HO_0.out z67 (x2_1 : Int) p17 q17
      obtain rfl := k67_openM hM17
      have hx17_0 : wr.cell? ⟨go17, (x2_1 : Int).toNat * 2, none⟩ = some (.bool ((rd_T67 x0_1 x2_1).f0)) := hcc17 0 _ rfl
      have hx17_1 : wr.cell? ⟨go17, (x2_1 : Int).toNat * 2 + 1, none⟩ = some (.int .i64 ((rd_T67 x0_1 x2_1).f1)) := hcc17 1 _ rfl
      have hf17_0 : wr.frozen? ⟨go17, (x2_1 : Int).toNat * 2, none⟩ = false := hfr17 0
      have hf17_1 : wr.frozen? ⟨go17, (x2_1 : Int).toNat * 2 + 1, none⟩ = false := hfr17 1
      clear hcl17 hcc17 hfr17 hM17
      replace p17 := eq_true p17
      replace q17 := eq_true q17
      have HX19 := am (show Kd.R k67 67 wr w0.heap.size (fun k_ => (P0_ k_ ∨ w.heap.size ≤ k_)) (.slice (some ⟨go17, 0, none⟩) x0_1.length co18) x0_1 from (by (with_reducible repeat (first | apply Kd.R_alloc | apply Kd.R_drewN | apply Kd.R_drew)); exact HO_0.out))
      obtain ⟨ce19, hcl19, hM19, hcc19, hfr19⟩ := Kd.R_elem HX19.out z67 (x2_1 : Int) (of_decide_eq_true (by first | (with_reducible assumption) | assumption)) (by have h_ : (x2_1 : Int) < ((x0_1.length : Int) : Int) := of_decide_eq_true (by first | (with_reducible assumption) | assumption); first | exact h_ | (have e_ := (Kd.R_reads' HO_0.out).1; omega) | simpa using h_)
      obtain rfl := k67_openM hM19
      have HP19 := Kd.R_seg HX19.out (x2_1 : Int) (of_decide_eq_true (by first | (with_reducible assumption) | assumption)) (by have h_ : (x2_1 : Int) < ((x0_1.length : Int) : Int) := of_decide_eq_true (by first | (with_reducible assumption) | assumption); first | exact h_ | (have e_ := (Kd.R_reads' HO_0.out).1; omega) | simpa using h_) (seg := [.int .i64 (-1099511627776)]) (j := 1) hcl19 hcc19 (show 2 ≤ 2 from by decide) (x' := (⟨(rd_T67 x0_1 x2_1).f0, (-1099511627776)⟩ : S67)) (k67_mkM _ _ _ (⟨(rd_T67 x0_1 x2_1).f0, (-1099511627776)⟩ : S67) ) (fun _ hk => hk)
      have hx19_1 := hcc19 1 _ rfl
      (try simp only [show (k67).sz = 2 from rfl, Nat.mul_one, Nat.add_zero] at hx19_1)
      have hf19_1 := hfr19 1
      (try simp only [show (k67).sz = 2 from rfl, Nat.mul_one, Nat.add_zero] at hf19_1)
      clear hcl19 hcc19 hfr19 hM19
      go_wp2_with (first | ((with_reducible refine gate_store (t := 3) (p := 28) rfl ?_); refine store_event (t := 3) (p := 28) (v := ?vo_w20) (w1 := (wr.setCell ⟨go17, (x2_1 : Int).toNat * 2 + 1, none⟩ (.int .i64 (-1099511627776)))) ?hg ?ho ?hn ?hr ?_; (case ho => rfl); (case hg => rfl); (case hn => rfl); (case hr => first | (go_simp; done) | (go_simp; rfl)); intro w20 hw; have hg : wr.grownBy w20 (some go17) := (by rw [hw]; exact HP19.2); have hp_ : Kd.R k67 67 w20 w0.heap.size (fun k_ => (P0_ k_ ∨ w.heap.size ≤ k_)) (.slice (some ⟨go17, 0, none⟩) x0_1.length co18) y186 := (by rw [hw, Ny186.out]; exact HP19.1); clear HP19; have n0_ := am (hp_); have n1_ := am ((by rw [hw]; exact below_set (HB.out) GB17.out : Below w0.heap.size w0 w20)); have n2_ := am (Kept.of_grown (S := (fun k_ => P0_ k_)) hg (by repeat (first | (with_reducible first | exact HK.out | apply Kept.alloc | apply Kept.drewN | apply Kept.drew) | exact HK.out)) (fun k_ e_ => (HO_0.out.1 k_ e_))); clear HO_0; clear HB; clear HK; have HO_0 := n0_; have HB := n1_; have HK := n2_; clear n0_ n1_ n2_; clear hg hw hp_))
      go_roundg k1
      case measure => have := HK1.out; omega
      case rel => exact ⟨(y186), (wrap64 (x2_1 + 1)), pr, H', ⟨by have := HK1.out; omega⟩, ⟨by (with_reducible repeat (first | apply Kd.R_alloc | apply Kd.R_drewN | apply Kd.R_drew)); exact HO_0.out⟩, ⟨by repeat (first | (with_reducible first | exact HK.out | apply Kept.alloc | apply Kept.drewN | apply Kept.drew) | exact HK.out)⟩, ⟨pw⟩⟩
     rw [if_neg c16] at H
     have c16b0 : decide (((rd_T67 x0_1 x2_1).f1) < (-1099511627776)) = false := decide_eq_false c16
     clear c16
     have H' := am H
     clear H
     obtain ⟨Ao21, co21, eo21⟩ := Kd.R_slice HO_0.out
     subst eo21
     have p181 : 0 ≤ (x2_1 : Int) := of_decide_eq_true (by first | (with_reducible assumption) | assumption)
     have q181 : x2_1 < (x0_1.length : Int) := of_decide_eq_true (by first | (with_reducible assumption) | assumption)
     obtain ⟨ad181, e181, hx181_0, hx181_1⟩ := at_T67 (Kd.R_reads' HO_0.out).2.2 x2_1 p181 q181
     cases e181
     replace p181 := eq_true p181
     replace q181 := eq_true q181
     have p185 : 0 ≤ (x2_1 : Int) := of_decide_eq_true (by first | (with_reducible assumption) | assumption)
     have q185 : x2_1 < (x0_1.length : Int) := of_decide_eq_true (by first | (with_reducible assumption) | assumption)
     obtain ⟨ad185, e185, hx185_0, hx185_1⟩ := at_T67 (Kd.R_reads' HO_0.out).2.2 x2_1 p185 q185
     obtain rfl : ad181 = ad185 := (by injection e185)
     replace p185 := eq_true p185
     replace q185 := eq_true q185
     go_wp2
     go_roundg k1
     case measure => have := HK1.out; omega
     case rel => exact ⟨(x0_1), (wrap64 (x2_1 + 1)), pr, H', ⟨by have := HK1.out; omega⟩, ⟨by (with_reducible repeat (first | apply Kd.R_alloc | apply Kd.R_drewN | apply Kd.R_drew)); exact HO_0.out⟩, ⟨by repeat (first | (with_reducible first | exact HK.out | apply Kept.alloc | apply Kept.drewN | apply Kept.drew) | exact HK.out)⟩, ⟨pw⟩⟩
    rw [if_neg c3] at H
    exact absurd H (by simp)
   rw [if_neg c2] at H
   have c2b0 : decide (x2_1 < (x0_1.length : Int)) = false := decide_eq_false c2
   clear c2
   obtain rfl := Option.some.inj H
   obtain ⟨Ao22, co22, eo22⟩ := Kd.R_slice HO_0.out
   subst eo22
   go_wp2
   first | go_end0 | ((try simp only [Exit.inBlock, Exit.then]); refine bodyPost_ret (results_none rfl _ _ _) rfl ?_)
   exact ⟨pe, by (with_reducible repeat (first | apply Kd.R_alloc | apply Kd.R_drewN | apply Kd.R_drew)); exact HO_0.out, pw, by repeat (first | (with_reducible first | exact HK.out | apply Kept.alloc | apply Kept.drewN | apply Kept.drew) | exact HK.out)⟩

end Go.Proofs.YtcalcnfppnbooaaDoor.Z
