import Derived.Test.YtcalcnfppnbooaaDoorOxQw
import Derived.Test.YtcalcnfppnbooaaDoorOxQy
/- Package octagon: a bound put to it. -/
set_option linter.unusedVariables false
set_option linter.unusedSimpArgs false
namespace Go.Proofs.Rco
open Go Go.RowKit Go.Proofs.Rcn Go.Proofs.Rcg Go.Proofs.YtcalcnfppnbooaaDoor.Z Go.Proofs.YtcalcnfppnbooaaDoorW.PrintWords
open Go.Proofs.YtcalcnfppnbooaaDoorW.PrintLast (start_ pure_ take_ one_ last_ norm_ done_ goes_ value_ skip_ i64_w i32_w call_ enters_)
/-- A call of a function's value. -/
theorem goesV_ {P : Program} {ops : Array Oper} {Q : Exit → Act → World → Prop} {oi : Oper} {N : Option Tmp} {a : Act} {w : World} {K : Act → World → Prop} {f : FuncId} {fn : Func} {ao : Array Operand} {ts : Array TypeId} {s : Operand} (hf : P.funcs[f]? = some fn) (hname : (fn.name == "runtime.NumGoroutine") = false) (hb : fn.body.isSome = true) (args : Array Value)
    (hw : Region.wanted oi (yielded ops a.tmps) = true) (hN : oi.dst = N) (hop : oi.op = .call { callee := .value s, args := ao, argTypes := ts }) (hs : a.eval s = .func (.func f) #[] #[]) (hargs : ao.map a.eval = args)
    (h : Calls P f args w fun e w' => ∃ v, e = .returned v ∧ K (a.put N v) w') : if Region.wanted oi (yielded ops a.tmps) = true then Oper.wp P oi a w K Q else K (a.put N undef) w := by
  refine call_ f args hw hN ?_ h
  have he := enters_ hf hname hb args w
  unfold execOp
  simp [hop, resolve, Deferred.ofValue, invoke, hs, hargs, he]
/-- A row that is written; the octagon's box. -/
structure OW (w : World) (base g n c : Nat) (N : Int) (X : List Cel) (wr : World) : Prop where
  but : But g w wr
  zv : Cell2 wr w.heap.size (.int .i64 N) (.slice (some ⟨g, 0, none⟩) n c)
  row : ZRow wr base oC (.slice (some ⟨g, 0, none⟩) n c) X
  ln : n = X.length
  ne : w.heap.size ≠ g
  gs : g < wr.heap.size
section
variable {w wr : World} {base g n c : Nat} {N : Int} {X : List Cel}
theorem OW.drew (h : OW w base g n c N X wr) : OW w base g n c N X wr.drew := ⟨h.but.drew, h.zv.drew, h.row, h.ln, h.ne, h.gs⟩
theorem OW.alloc (h : OW w base g n c N X wr) (o : Obj) : OW w base g n c N X (wr.alloc o) := ⟨h.but.alloc o, h.zv.alloc o, h.row.alloc o, h.ln, h.ne, by have := h.gs; simp; omega⟩
theorem OW.put (h : OW w base g n c N X wr) (k : Nat) (a : Bool) (m : Int) :
    OW w base g n c N (X.set k ⟨a, m⟩) ((wr.setCell ⟨g, k * 2, none⟩ (.bool a)).setCell ⟨g, k * 2 + 1, none⟩ (.int .i64 m)) :=
  ⟨(h.but.set _ _).set _ _, (h.zv.set (by have := h.ne; omega) _ _).set (by have := h.ne; omega) _ _, h.row.put h.ln k a m, by rw [List.length_set]; exact h.ln, h.ne, by have := h.gs; simpa using this⟩
theorem OW.least (h : OW w base g n c N X wr) (m i j : Nat) (h2 : 2 * N = m) (hm : m ≤ 8) (hl : n = m * m) (hi : i < m) (hj : j < m) (b : Bool) (x : Int) :
    Calls Tryd.prog 123 #[.agg #[.int .i64 N, .slice (some ⟨g, 0, none⟩) n c], .int .i64 i, .int .i64 j, .bool b, .int .i64 x] wr fun e w' => e = .returned (.tuple #[]) ∧ OW w base g n c N (leastO m X i j b x) w' := by
  obtain ⟨q, rfl⟩ : ∃ q, m = 2 * q := ⟨m / 2, by omega⟩
  exact (least_any q i j g n c base N X b x wr (by omega) (by omega) hl hi hj h.row h.gs h.ln).mono fun e w' p =>
    ⟨p.1, h.but.trans p.2.2, h.zv.but p.2.2 h.ne, p.2.1, by rw [leastO_length]; exact h.ln, h.ne, Nat.lt_of_lt_of_le h.gs p.2.2.size⟩
end
theorem atS_any (s : Int) (v : Nat) (w : World) (hs : -1 ≤ s ∧ s ≤ 1) (hv : v ≤ 100) :
    Calls Tryd.prog 139 #[.int .i64 s, .int .i64 v] w fun e w' => e = .returned (.int .i64 ((atS s v : Nat) : Int)) ∧ w = w' := by
  have H : Hid (atS s v = if s < 0 then 2 * v + 1 else 2 * v) := rfl
  generalize atS s v = r at H
  by_cases h0 : s < 0
  · have HR := Lib.hid H.out
    rw [if_pos h0] at HR
    clear H
    go_enter Tryd.func139, Tryd.ntmps139
    go_wp2
    go_ret
    exact ⟨by rw [HR.out]; rfl, rfl⟩
  · have HR := Lib.hid H.out
    rw [if_neg h0] at HR
    clear H
    go_enter Tryd.func139, Tryd.ntmps139
    go_wp2
    go_ret
    exact ⟨by rw [HR.out]; rfl, rfl⟩
theorem atS_lt {n v : Nat} {s : Int} (h : 2 * v + 1 < n) : atS s v < n := by unfold atS; split <;> omega
/-- No variable: nothing is written. -/
theorem bound_zero (N : Int) (A : Option Addr) (len c : Nat) (x y cc : Int) (w : World) :
    Calls Tryd.prog 118 #[.agg #[.int .i64 N, .slice A len c], .int .i64 0, .int .i64 x, .int .i64 0, .int .i64 y, .int .i64 cc] w fun e w' => e = .returned (.bool (decide (0 ≤ cc))) ∧ Below w.heap.size w w' := by
  obtain ⟨t, ht⟩ : ∃ t, t = decide (0 ≤ cc) := ⟨_, rfl⟩
  rw [← ht]
  have ht2 := ht.symm
  have HT := Lib.hid ht
  clear ht
  go_enter Tryd.func118, Tryd.ntmps118
  go_wp2
  go_ret
  exact ⟨by first | rfl | (rw [HT.out]; rfl), Go.Proofs.Rcn.below_alloc (Below.refl _ _) _⟩
set_option maxRecDepth 100000 in
set_option maxHeartbeats 4000000 in
theorem bound_any (n x y g len c base : Nat) (N a b cc : Int) (L : List Cel) (w : World) (h2 : 2 * N = n) (hn : n ≤ 8) (hl : len = n * n) (hx : 2 * x + 1 < n) (hy : 2 * y + 1 < n) (ha : -1 ≤ a ∧ a ≤ 1) (hb : -1 ≤ b ∧ b ≤ 1) (hab : ¬ (a = 0 ∧ b = 0)) (hcc : -1099511627776 ≤ cc ∧ cc ≤ 1099511627776)
    (hz : ZRow w base oC (.slice (some ⟨g, 0, none⟩) len c) L) (hg : g < w.heap.size) (hlen : len = L.length) :
    Calls Tryd.prog 118 #[.agg #[.int .i64 N, .slice (some ⟨g, 0, none⟩) len c], .int .i64 a, .int .i64 x, .int .i64 b, .int .i64 y, .int .i64 cc] w fun e w' => e = .returned (.bool true) ∧ ZRow w' base oC (.slice (some ⟨g, 0, none⟩) len c) (boundL n a x b y cc L) ∧ But g w w' := by
  have HS : Hid (OW w base g len c N L (w.alloc (.cells #[.int .i64 N, .slice (some ⟨g, 0, none⟩) len c] 74))) := ⟨(But.refl _ _).alloc _, Cell2.new w _ _ _, hz.alloc _, hlen, by omega, by simp; omega⟩
  have HN := Lib.hid h2
  have Hl := Lib.hid hl
  have HB := Lib.hid (fun W => atS_any b y W hb (by omega))
  have HA := Lib.hid (fun W => atS_any a x W ha (by omega))
  have hp := atS_lt (s := b) hy
  have hq := atS_lt (s := a) hx
  have HBL : Hid (boundL n a x b y cc L = if a = 0 then leastO n L (op (atS b y)) (atS b y) true (2 * cc) else if b = 0 then leastO n L (op (atS a x)) (atS a x) true (2 * cc) else leastO n L (op (atS b y)) (atS a x) true cc) := rfl
  generalize boundL n a x b y cc L = R at HBL
  generalize atS b y = p at HB hp HBL
  generalize atS a x = q at HA hq HBL
  have hp' : op p < n := op_even h2 hp
  have hq' : op q < n := op_even h2 hq
  have k1 := xor_op p (by omega)
  have k2 := xor_op q (by omega)
  obtain ⟨wb, hwb⟩ : ∃ wb, wb = w.alloc (.cells #[.int .i64 N, .slice (some ⟨g, 0, none⟩) len c] 74) := ⟨_, rfl⟩
  rw [← hwb] at HS
  have HD := Lib.hid HS.out.drew
  have HWb := Lib.hid hwb
  have hw2 : wrap64 (2 * cc) = 2 * cc := by unfold wrap64; omega
  have hw3 : IntKind.i64.wrap (2 * cc) = 2 * cc := by rw [IntKind.wrap_i64]; omega
  clear hz hlen h2 hl hg hwb
  by_cases a0 : a = 0
  · have HR : Hid (R = leastO n L (op p) p true (2 * cc)) := by show _ = _; rw [HBL.out, if_pos a0]
    have b0 : (b == 0) = false := by simp; omega
    have b1 : ¬ b = 0 := by omega
    clear HBL hab HA k2 hq hq'
    subst a0
    clear HS
    as_aux_lemma =>
     go_enter Tryd.func118, Tryd.ntmps118
     go_upto_region 6 with fail
     rw [← HWb.out]
     clear HWb
     refine start_ (n := 13) (S := fun w' => w'.cell? ⟨w.heap.size, 0, none⟩ = some (.int .i64 N) ∧ w'.cell? ⟨w.heap.size, 1, none⟩ = some (.slice (some ⟨g, 0, none⟩) len c)) (ds := [12]) #[false, false, false, false, false, false, false, false, false, false, false, false, false] (by kernel_rfl) rfl rfl ⟨HD.out.zv.c0, HD.out.zv.c1⟩ (fun hHeld => ?_)
     generalize wb.drew = wd at HD hHeld ⊢
     refine pure_ (i := 1) (N := some 39) (v := ?_) (a' := ?_) #[false, true, false, false, false, false, false, false, false, false, false, false, false] rfl rfl (by kernel_rfl) (fun _ _ _ h => h) (Or.inl ⟨by rfl, ?_⟩) ?_ ?_; rotate_left; (· intro w'; go_simp; (with_reducible rfl)); rotate_left; (· simp only [sp]; rfl)
     refine pure_ (i := 2) (N := some 40) (v := ?_) (a' := ?_) #[false, true, true, false, false, false, false, false, false, false, false, false, false] rfl rfl (by kernel_rfl) (fun _ _ _ h => h) (Or.inl ⟨by rfl, ?_⟩) ?_ ?_; rotate_left; (· intro w'; go_simp; (with_reducible rfl)); rotate_left; (· simp only [sp]; rfl)
     refine pure_ (i := 3) (N := some 41) (v := ?_) (a' := ?_) #[false, true, true, true, false, false, false, false, false, false, false, false, false] rfl rfl (by kernel_rfl) (fun _ _ _ h => h) (Or.inl ⟨by rfl, ?_⟩) ?_ ?_; rotate_left; (· intro w'; go_simp; (with_reducible rfl)); rotate_left; (· simp only [sp]; rfl)
     refine pure_ (i := 6) (N := some 44) (v := ?_) (a' := ?_) #[false, true, true, true, false, false, true, false, false, false, false, false, false] rfl rfl (by kernel_rfl) (fun _ _ _ h => h) (Or.inl ⟨by rfl, ?_⟩) ?_ ?_; rotate_left; (· intro w'; go_simp; (with_reducible rfl)); rotate_left; (· simp only [sp]; rfl)
     refine pure_ (i := 7) (N := some 45) (v := ?_) (a' := ?_) #[false, true, true, true, false, false, true, true, false, false, false, false, false] rfl rfl (by kernel_rfl) (fun _ _ _ h => h) (Or.inl ⟨by rfl, ?_⟩) ?_ ?_; rotate_left; (· intro w'; go_simp; (with_reducible rfl)); rotate_left; (· simp only [sp]; rfl)
     refine pure_ (i := 8) (N := some 46) (v := ?_) (a' := ?_) #[false, true, true, true, false, false, true, true, true, false, false, false, false] rfl rfl (by kernel_rfl) (fun _ _ _ h => h) (Or.inl ⟨by rfl, ?_⟩) ?_ ?_; rotate_left; (· intro w'; go_simp; (with_reducible rfl)); rotate_left; (· simp only [sp]; rfl)
     refine pure_ (i := 10) (N := some 48) (v := ?_) (a' := ?_) #[false, true, true, true, false, false, true, true, true, false, true, false, false] rfl rfl (by kernel_rfl) (fun _ _ _ h => h) (Or.inl ⟨by rfl, ?_⟩) ?_ ?_; rotate_left; (· intro w'; go_simp; (with_reducible rfl)); rotate_left; (· simp only [sp]; rfl)
     refine pure_ (i := 11) (N := some 49) (v := ?_) (a' := ?_) #[false, true, true, true, false, false, true, true, true, false, true, true, false] rfl rfl (by kernel_rfl) (fun _ _ _ h => h) (Or.inl ⟨by rfl, ?_⟩) ?_ ?_; rotate_left; (· intro w'; go_simp; (with_reducible rfl)); rotate_left; (· simp only [sp]; rfl)
     refine take_ (i := 0) (N := some 38) (v := ?_) (a' := ?_) #[true, true, true, true, false, false, true, true, true, false, true, true, false] rfl rfl (by kernel_rfl) (fun _ _ _ h => h) (Or.inl ⟨by rfl, ?_⟩) hHeld ?_ ?_; rotate_left; (· rintro w' ⟨s0, s1⟩; go_simp; (with_reducible rfl)); rotate_left; (· simp only [sp]; rfl)
     refine one_ (i := 4) (N := some 42) #[true, true, true, true, true, false, true, true, true, false, true, true, false] rfl rfl (by kernel_rfl) (by decide) (fun K hK => ?_)
     refine goesV_ Tryd.func139 (by kernel_rfl) rfl #[.int .i64 b, .int .i64 y] (by rfl) rfl rfl (by rfl) (by simp only [List.map_toArray, List.map_cons, List.map_nil]; rfl) ?_
     with_reducible refine (HB.out _).mono ?_
     rintro e wz ⟨rfl, rfl⟩
     refine ⟨_, rfl, ?_⟩
     refine hK.out _ _ ⟨HD.out.zv.c0, HD.out.zv.c1⟩ (fun hHeld => ?_)
     clear hK K
     refine norm_ (a' := ?_) ?_ ?_
     rotate_left
     · show Act.put _ (some 42) _ = _
       simp only [sp]
       rfl
     refine pure_ (i := 5) (N := some 43) (v := ?_) (a' := ?_) #[true, true, true, true, true, true, true, true, true, false, true, true, false] rfl rfl (by kernel_rfl) (fun _ _ _ h => h) (Or.inl ⟨by rfl, ?_⟩) ?_ ?_; rotate_left; (· intro w'; go_simp; (with_reducible rfl)); rotate_left; (· simp only [sp]; rfl)
     refine one_ (i := 9) (N := some 47) #[true, true, true, true, true, true, true, true, true, true, true, true, false] rfl rfl (by kernel_rfl) (by decide) (fun K hK => ?_)
     refine goesV_ Tryd.func139 (by kernel_rfl) rfl #[.int .i64 b, .int .i64 y] (by rfl) rfl rfl (by rfl) (by simp only [List.map_toArray, List.map_cons, List.map_nil]; rfl) ?_
     with_reducible refine (HB.out _).mono ?_
     rintro e wz ⟨rfl, rfl⟩
     refine ⟨_, rfl, ?_⟩
     refine hK.out _ _ ⟨HD.out.zv.c0, HD.out.zv.c1⟩ (fun hHeld => ?_)
     clear hK K
     refine norm_ (a' := ?_) ?_ ?_
     rotate_left
     · show Act.put _ (some 47) _ = _
       simp only [sp]
       rfl
     refine last_ (i := 12) (N := some 50) #[true, true, true, true, true, true, true, true, true, true, true, true, true] rfl rfl (by kernel_rfl) (by decide) (fun K hK => ?_)
     refine goes_ Tryd.func123 (by kernel_rfl) rfl #[.agg #[.int .i64 N, .slice (some ⟨g, 0, none⟩) len c], .int .i64 (op p), .int .i64 p, .bool true, .int .i64 (2 * cc)] (by rfl) rfl rfl (by simp only [List.map_toArray, List.map_cons, List.map_nil]; rfl) ?_
     with_reducible refine (OW.least HD.out n (op p) p HN.out hn Hl.out hp' hp true _).mono ?_
     rintro e w2 ⟨rfl, h2⟩
     refine ⟨_, rfl, ?_⟩
     refine hK.out _ _ ?_
     clear hK K
     refine norm_ (a' := ?_) ?_ ?_
     rotate_left
     · show Act.put _ (some 50) _ = _
       simp only [sp]
       rfl
     refine done_ (by kernel_rfl) ?_
     go_wp2
     go_ret
     exact ⟨rfl, by rw [HR.out]; exact h2.row, h2.but⟩
  · by_cases b0 : b = 0
    · have HR : Hid (R = leastO n L (op q) q true (2 * cc)) := by show _ = _; rw [HBL.out, if_neg a0, if_pos b0]
      have a1 : (a == 0) = false := by simp; omega
      clear HBL hab HB k1 hp hp'
      subst b0
      clear HS
      as_aux_lemma =>
       go_enter Tryd.func118, Tryd.ntmps118
       go_upto_region 8 with fail
       rw [← HWb.out]
       clear HWb
       refine start_ (n := 13) (S := fun w' => w'.cell? ⟨w.heap.size, 0, none⟩ = some (.int .i64 N) ∧ w'.cell? ⟨w.heap.size, 1, none⟩ = some (.slice (some ⟨g, 0, none⟩) len c)) (ds := [12]) #[false, false, false, false, false, false, false, false, false, false, false, false, false] (by kernel_rfl) rfl rfl ⟨HD.out.zv.c0, HD.out.zv.c1⟩ (fun hHeld => ?_)
       generalize wb.drew = wd at HD hHeld ⊢
       refine pure_ (i := 1) (N := some 55) (v := ?_) (a' := ?_) #[false, true, false, false, false, false, false, false, false, false, false, false, false] rfl rfl (by kernel_rfl) (fun _ _ _ h => h) (Or.inl ⟨by rfl, ?_⟩) ?_ ?_; rotate_left; (· intro w'; go_simp; (with_reducible rfl)); rotate_left; (· simp only [sp]; rfl)
       refine pure_ (i := 2) (N := some 56) (v := ?_) (a' := ?_) #[false, true, true, false, false, false, false, false, false, false, false, false, false] rfl rfl (by kernel_rfl) (fun _ _ _ h => h) (Or.inl ⟨by rfl, ?_⟩) ?_ ?_; rotate_left; (· intro w'; go_simp; (with_reducible rfl)); rotate_left; (· simp only [sp]; rfl)
       refine pure_ (i := 3) (N := some 57) (v := ?_) (a' := ?_) #[false, true, true, true, false, false, false, false, false, false, false, false, false] rfl rfl (by kernel_rfl) (fun _ _ _ h => h) (Or.inl ⟨by rfl, ?_⟩) ?_ ?_; rotate_left; (· intro w'; go_simp; (with_reducible rfl)); rotate_left; (· simp only [sp]; rfl)
       refine pure_ (i := 6) (N := some 60) (v := ?_) (a' := ?_) #[false, true, true, true, false, false, true, false, false, false, false, false, false] rfl rfl (by kernel_rfl) (fun _ _ _ h => h) (Or.inl ⟨by rfl, ?_⟩) ?_ ?_; rotate_left; (· intro w'; go_simp; (with_reducible rfl)); rotate_left; (· simp only [sp]; rfl)
       refine pure_ (i := 7) (N := some 61) (v := ?_) (a' := ?_) #[false, true, true, true, false, false, true, true, false, false, false, false, false] rfl rfl (by kernel_rfl) (fun _ _ _ h => h) (Or.inl ⟨by rfl, ?_⟩) ?_ ?_; rotate_left; (· intro w'; go_simp; (with_reducible rfl)); rotate_left; (· simp only [sp]; rfl)
       refine pure_ (i := 8) (N := some 62) (v := ?_) (a' := ?_) #[false, true, true, true, false, false, true, true, true, false, false, false, false] rfl rfl (by kernel_rfl) (fun _ _ _ h => h) (Or.inl ⟨by rfl, ?_⟩) ?_ ?_; rotate_left; (· intro w'; go_simp; (with_reducible rfl)); rotate_left; (· simp only [sp]; rfl)
       refine pure_ (i := 10) (N := some 64) (v := ?_) (a' := ?_) #[false, true, true, true, false, false, true, true, true, false, true, false, false] rfl rfl (by kernel_rfl) (fun _ _ _ h => h) (Or.inl ⟨by rfl, ?_⟩) ?_ ?_; rotate_left; (· intro w'; go_simp; (with_reducible rfl)); rotate_left; (· simp only [sp]; rfl)
       refine pure_ (i := 11) (N := some 65) (v := ?_) (a' := ?_) #[false, true, true, true, false, false, true, true, true, false, true, true, false] rfl rfl (by kernel_rfl) (fun _ _ _ h => h) (Or.inl ⟨by rfl, ?_⟩) ?_ ?_; rotate_left; (· intro w'; go_simp; (with_reducible rfl)); rotate_left; (· simp only [sp]; rfl)
       refine take_ (i := 0) (N := some 54) (v := ?_) (a' := ?_) #[true, true, true, true, false, false, true, true, true, false, true, true, false] rfl rfl (by kernel_rfl) (fun _ _ _ h => h) (Or.inl ⟨by rfl, ?_⟩) hHeld ?_ ?_; rotate_left; (· rintro w' ⟨s0, s1⟩; go_simp; (with_reducible rfl)); rotate_left; (· simp only [sp]; rfl)
       refine one_ (i := 4) (N := some 58) #[true, true, true, true, true, false, true, true, true, false, true, true, false] rfl rfl (by kernel_rfl) (by decide) (fun K hK => ?_)
       refine goesV_ Tryd.func139 (by kernel_rfl) rfl #[.int .i64 a, .int .i64 x] (by rfl) rfl rfl (by rfl) (by simp only [List.map_toArray, List.map_cons, List.map_nil]; rfl) ?_
       with_reducible refine (HA.out _).mono ?_
       rintro e wz ⟨rfl, rfl⟩
       refine ⟨_, rfl, ?_⟩
       refine hK.out _ _ ⟨HD.out.zv.c0, HD.out.zv.c1⟩ (fun hHeld => ?_)
       clear hK K
       refine norm_ (a' := ?_) ?_ ?_
       rotate_left
       · show Act.put _ (some 58) _ = _
         simp only [sp]
         rfl
       refine pure_ (i := 5) (N := some 59) (v := ?_) (a' := ?_) #[true, true, true, true, true, true, true, true, true, false, true, true, false] rfl rfl (by kernel_rfl) (fun _ _ _ h => h) (Or.inl ⟨by rfl, ?_⟩) ?_ ?_; rotate_left; (· intro w'; go_simp; (with_reducible rfl)); rotate_left; (· simp only [sp]; rfl)
       refine one_ (i := 9) (N := some 63) #[true, true, true, true, true, true, true, true, true, true, true, true, false] rfl rfl (by kernel_rfl) (by decide) (fun K hK => ?_)
       refine goesV_ Tryd.func139 (by kernel_rfl) rfl #[.int .i64 a, .int .i64 x] (by rfl) rfl rfl (by rfl) (by simp only [List.map_toArray, List.map_cons, List.map_nil]; rfl) ?_
       with_reducible refine (HA.out _).mono ?_
       rintro e wz ⟨rfl, rfl⟩
       refine ⟨_, rfl, ?_⟩
       refine hK.out _ _ ⟨HD.out.zv.c0, HD.out.zv.c1⟩ (fun hHeld => ?_)
       clear hK K
       refine norm_ (a' := ?_) ?_ ?_
       rotate_left
       · show Act.put _ (some 63) _ = _
         simp only [sp]
         rfl
       refine last_ (i := 12) (N := some 66) #[true, true, true, true, true, true, true, true, true, true, true, true, true] rfl rfl (by kernel_rfl) (by decide) (fun K hK => ?_)
       refine goes_ Tryd.func123 (by kernel_rfl) rfl #[.agg #[.int .i64 N, .slice (some ⟨g, 0, none⟩) len c], .int .i64 (op q), .int .i64 q, .bool true, .int .i64 (2 * cc)] (by rfl) rfl rfl (by simp only [List.map_toArray, List.map_cons, List.map_nil]; rfl) ?_
       with_reducible refine (OW.least HD.out n (op q) q HN.out hn Hl.out hq' hq true _).mono ?_
       rintro e w2 ⟨rfl, h2⟩
       refine ⟨_, rfl, ?_⟩
       refine hK.out _ _ ?_
       clear hK K
       refine norm_ (a' := ?_) ?_ ?_
       rotate_left
       · show Act.put _ (some 66) _ = _
         simp only [sp]
         rfl
       refine done_ (by kernel_rfl) ?_
       go_wp2
       go_ret
       exact ⟨rfl, by rw [HR.out]; exact h2.row, h2.but⟩
    · have HR : Hid (R = leastO n L (op p) q true cc) := by show _ = _; rw [HBL.out, if_neg a0, if_neg b0]
      have a1 : (a == 0) = false := by simp; omega
      have b1 : (b == 0) = false := by simp; omega
      clear HBL hab k2 hq'
      clear HS
      as_aux_lemma =>
       go_enter Tryd.func118, Tryd.ntmps118
       go_upto_region 2 with fail
       rw [← HWb.out]
       clear HWb
       refine start_ (n := 12) (S := fun w' => w'.cell? ⟨w.heap.size, 0, none⟩ = some (.int .i64 N) ∧ w'.cell? ⟨w.heap.size, 1, none⟩ = some (.slice (some ⟨g, 0, none⟩) len c)) (ds := [11]) #[false, false, false, false, false, false, false, false, false, false, false, false] (by kernel_rfl) rfl rfl ⟨HD.out.zv.c0, HD.out.zv.c1⟩ (fun hHeld => ?_)
       generalize wb.drew = wd at HD hHeld ⊢
       refine pure_ (i := 1) (N := some 15) (v := ?_) (a' := ?_) #[false, true, false, false, false, false, false, false, false, false, false, false] rfl rfl (by kernel_rfl) (fun _ _ _ h => h) (Or.inl ⟨by rfl, ?_⟩) ?_ ?_; rotate_left; (· intro w'; go_simp; (with_reducible rfl)); rotate_left; (· simp only [sp]; rfl)
       refine pure_ (i := 2) (N := some 16) (v := ?_) (a' := ?_) #[false, true, true, false, false, false, false, false, false, false, false, false] rfl rfl (by kernel_rfl) (fun _ _ _ h => h) (Or.inl ⟨by rfl, ?_⟩) ?_ ?_; rotate_left; (· intro w'; go_simp; (with_reducible rfl)); rotate_left; (· simp only [sp]; rfl)
       refine pure_ (i := 3) (N := some 17) (v := ?_) (a' := ?_) #[false, true, true, true, false, false, false, false, false, false, false, false] rfl rfl (by kernel_rfl) (fun _ _ _ h => h) (Or.inl ⟨by rfl, ?_⟩) ?_ ?_; rotate_left; (· intro w'; go_simp; (with_reducible rfl)); rotate_left; (· simp only [sp]; rfl)
       refine pure_ (i := 6) (N := some 20) (v := ?_) (a' := ?_) #[false, true, true, true, false, false, true, false, false, false, false, false] rfl rfl (by kernel_rfl) (fun _ _ _ h => h) (Or.inl ⟨by rfl, ?_⟩) ?_ ?_; rotate_left; (· intro w'; go_simp; (with_reducible rfl)); rotate_left; (· simp only [sp]; rfl)
       refine pure_ (i := 7) (N := some 21) (v := ?_) (a' := ?_) #[false, true, true, true, false, false, true, true, false, false, false, false] rfl rfl (by kernel_rfl) (fun _ _ _ h => h) (Or.inl ⟨by rfl, ?_⟩) ?_ ?_; rotate_left; (· intro w'; go_simp; (with_reducible rfl)); rotate_left; (· simp only [sp]; rfl)
       refine pure_ (i := 8) (N := some 22) (v := ?_) (a' := ?_) #[false, true, true, true, false, false, true, true, true, false, false, false] rfl rfl (by kernel_rfl) (fun _ _ _ h => h) (Or.inl ⟨by rfl, ?_⟩) ?_ ?_; rotate_left; (· intro w'; go_simp; (with_reducible rfl)); rotate_left; (· simp only [sp]; rfl)
       refine pure_ (i := 10) (N := some 24) (v := ?_) (a' := ?_) #[false, true, true, true, false, false, true, true, true, false, true, false] rfl rfl (by kernel_rfl) (fun _ _ _ h => h) (Or.inl ⟨by rfl, ?_⟩) ?_ ?_; rotate_left; (· intro w'; go_simp; (with_reducible rfl)); rotate_left; (· simp only [sp]; rfl)
       refine take_ (i := 0) (N := some 14) (v := ?_) (a' := ?_) #[true, true, true, true, false, false, true, true, true, false, true, false] rfl rfl (by kernel_rfl) (fun _ _ _ h => h) (Or.inl ⟨by rfl, ?_⟩) hHeld ?_ ?_; rotate_left; (· rintro w' ⟨s0, s1⟩; go_simp; (with_reducible rfl)); rotate_left; (· simp only [sp]; rfl)
       refine one_ (i := 4) (N := some 18) #[true, true, true, true, true, false, true, true, true, false, true, false] rfl rfl (by kernel_rfl) (by decide) (fun K hK => ?_)
       refine goesV_ Tryd.func139 (by kernel_rfl) rfl #[.int .i64 b, .int .i64 y] (by rfl) rfl rfl (by rfl) (by simp only [List.map_toArray, List.map_cons, List.map_nil]; rfl) ?_
       with_reducible refine (HB.out _).mono ?_
       rintro e wz ⟨rfl, rfl⟩
       refine ⟨_, rfl, ?_⟩
       refine hK.out _ _ ⟨HD.out.zv.c0, HD.out.zv.c1⟩ (fun hHeld => ?_)
       clear hK K
       refine norm_ (a' := ?_) ?_ ?_
       rotate_left
       · show Act.put _ (some 18) _ = _
         simp only [sp]
         rfl
       refine pure_ (i := 5) (N := some 19) (v := ?_) (a' := ?_) #[true, true, true, true, true, true, true, true, true, false, true, false] rfl rfl (by kernel_rfl) (fun _ _ _ h => h) (Or.inl ⟨by rfl, ?_⟩) ?_ ?_; rotate_left; (· intro w'; go_simp; (with_reducible rfl)); rotate_left; (· simp only [sp]; rfl)
       refine one_ (i := 9) (N := some 23) #[true, true, true, true, true, true, true, true, true, true, true, false] rfl rfl (by kernel_rfl) (by decide) (fun K hK => ?_)
       refine goesV_ Tryd.func139 (by kernel_rfl) rfl #[.int .i64 a, .int .i64 x] (by rfl) rfl rfl (by rfl) (by simp only [List.map_toArray, List.map_cons, List.map_nil]; rfl) ?_
       with_reducible refine (HA.out _).mono ?_
       rintro e wz ⟨rfl, rfl⟩
       refine ⟨_, rfl, ?_⟩
       refine hK.out _ _ ⟨HD.out.zv.c0, HD.out.zv.c1⟩ (fun hHeld => ?_)
       clear hK K
       refine norm_ (a' := ?_) ?_ ?_
       rotate_left
       · show Act.put _ (some 23) _ = _
         simp only [sp]
         rfl
       refine last_ (i := 11) (N := some 25) #[true, true, true, true, true, true, true, true, true, true, true, true] rfl rfl (by kernel_rfl) (by decide) (fun K hK => ?_)
       refine goes_ Tryd.func123 (by kernel_rfl) rfl #[.agg #[.int .i64 N, .slice (some ⟨g, 0, none⟩) len c], .int .i64 (op p), .int .i64 q, .bool true, .int .i64 cc] (by rfl) rfl rfl (by simp only [List.map_toArray, List.map_cons, List.map_nil]; rfl) ?_
       with_reducible refine (OW.least HD.out n (op p) q HN.out hn Hl.out hp' hq true _).mono ?_
       rintro e w2 ⟨rfl, h2⟩
       refine ⟨_, rfl, ?_⟩
       refine hK.out _ _ ?_
       clear hK K
       refine norm_ (a' := ?_) ?_ ?_
       rotate_left
       · show Act.put _ (some 25) _ = _
         simp only [sp]
         rfl
       refine done_ (by kernel_rfl) ?_
       go_wp2
       go_ret
       exact ⟨rfl, by rw [HR.out]; exact h2.row, h2.but⟩
end Go.Proofs.Rco
