import Derived.Test.YtcalcnfppnbooaaDoorProg
import Derived.Test.YtcalcnfppnbooaaDoorIrCd
import Derived.LaidSub
import Derived.LaidLaws
import Derived.LaidHandle
import Derived.MakeChecks
import Derived.Stop.LaidErr
import Derived.Lib.SmallJoins
/- The sentinels that a row lists, all eight, and errors.errorType: where each lies, each in a block of its own. -/
set_option linter.unusedVariables false
namespace Go.Proofs.Rcp
open Go Go.RowKit Go.ChangeShapes Go.WideShapes Go.Proofs.Rcg

theorem err_star : "*" ++ "errors.errorString" = "*errors.errorString" := by decide
theorem err_row (u : TypeId) (h : Tryd.prog.typeName? 3 u = some "*errors.errorString") : u = 210 :=
  typeName_ptr_named (nm := "errors.errorString") (by rw [err_star]; kernel_rfl) (by kernel_rfl) (by decide) u (by rw [err_star]; exact h)

set_option maxRecDepth 100000 in
theorem sentinelO {n : String} {g : Nat} {text : List UInt8} {l : List (String × DataW Unit)} {W : World} (hL : laidMetH Tryd.prog l W) (hg : Tryd.prog.globalNamed n = some g) (ht : (Tryd.prog.globals[g]?).map (·.type) = some 32)
    (hf : (l.filter fun x => x.1 == n) = [(n, .iface "*errors.errorString" (.ptr (.agg [.lit (.string text)])))]) :
    ∃ (a : Addr) (s : ByteArray) (cs : Array Value) (t : TypeId), W.cell? ⟨g, 0, none⟩ = some (.iface 210 (.pointer (some a))) ∧ W.cell? a = some (.string s) ∧ s.data.toList = text ∧ W.heap[a.block]? = some (.cells cs t (0, 0)) := by
  have h := laidMetH.filter (fun x => x.1 == n) hL
  rw [hf, MakeChecks.laidMetH_plain _ _ _ (by rfl)] at h
  obtain ⟨ps, ⟨g0, t0, cs0, f0, p0, q0, hg0, ht0, hv0, hd0, _, e0⟩, _, hrows⟩ := h
  obtain rfl := Option.some.inj (hg.symm.trans hg0)
  obtain rfl := Option.some.inj (ht.symm.trans ht0)
  subst e0
  obtain ⟨l0⟩ := cs0
  have ok0 : ∀ u v, l0 = [.iface u v] → Value.okWide Tryd.prog W .any 0 u v := fun u v e => by
    subst e
    exact (hrows g 0 (by simp [MemPlace.row])).2 u v (by simpa using World.var?_cell hg0 hv0 0)
  obtain ⟨a0, s0, rfl, hc0, hs0, hz0, rfl⟩ := errorString_of_trod Tryd.underlying32 err_row Tryd.underlying210 Tryd.underlying234 rfl rfl Tryd.underlying9 (by kernel_rfl) (by kernel_rfl) hd0 ok0
  obtain ⟨c0, t0, hb0⟩ := (hrows a0.block a0.off (by simp [MemPlace.row])).1
  exact ⟨a0, s0, c0, t0, by simpa using World.var?_cell hg0 hv0 0, hc0, hs0, hb0⟩

theorem rt_type : (Tryd.prog.cutTypes.find? (·.1 == "internal/reflectlite.rtype")).map (·.2) = some 196 := by kernel_rfl
set_option maxRecDepth 100000 in
theorem one_row : ((List.range 250).filter fun t => Tryd.prog.rowNamed t [101, 114, 114, 111, 114]) = [32] := by kernel_rfl
theorem nt_size : Tryd.prog.types.size = 250 := by kernel_rfl
theorem et_name : Tryd.prog.globalNamed "errors.errorType" = some 8 := by kernel_rfl
set_option maxRecDepth 100000 in
theorem handle {l : List (String × DataW Unit)} {W : World} (hL : laidMetH Tryd.prog l W)
    (hf : (l.filter fun x => x.1 == "errors.errorType") = [("errors.errorType", .iface "internal/reflectlite.rtype" (.agg [.ptr (.lit (.string [101, 114, 114, 111, 114]))]))]) :
    W.cell? ⟨8, 0, none⟩ = some (.iface 196 (.agg #[.pointer (some ⟨9, 32, none⟩)])) := by
  have h := laidMetH.filter (fun x => x.1 == "errors.errorType") hL
  rw [hf] at h
  have h' : laidMet Tryd.prog [] W ∧ handlesMet Tryd.prog [("errors.errorType", .iface "internal/reflectlite.rtype" (.agg [.ptr (.lit (.string [101, 114, 114, 111, 114]))]))] W := h
  obtain ⟨name, u, ty, e1, e2, e3, e4, e5⟩ := h'.2 _ (List.mem_singleton.2 rfl)
  have en : name = [101, 114, 114, 111, 114] := (Option.some.inj e1).symm
  subst en
  obtain rfl := Option.some.inj (rt_type.symm.trans e2)
  have hm : ty ∈ (List.range 250).filter fun t => Tryd.prog.rowNamed t [101, 114, 114, 111, 114] := List.mem_filter.2 ⟨List.mem_range.2 (by rw [← nt_size]; exact e3), e4⟩
  rw [one_row] at hm
  obtain rfl := List.mem_singleton.1 hm
  have hh : typeHandle Tryd.prog 32 = .pointer (some ⟨9, 32, none⟩) := by kernel_rfl
  rw [hh] at e5
  simpa using World.var?_cell et_name e5 0

/-- The eight texts. -/
def txt : Nat → List UInt8
  | 1 => [114, 97, 121, 99, 111, 110, 101, 58, 32, 116, 101, 120, 116]
  | 2 => [114, 97, 121, 99, 111, 110, 101, 58, 32, 98, 111, 117, 110, 100]
  | 3 => [114, 97, 121, 99, 111, 110, 101, 58, 32, 115, 104, 97, 112, 101]
  | 4 => [114, 97, 121, 99, 111, 110, 101, 58, 32, 101, 109, 112, 116, 121]
  | 5 => [114, 97, 121, 99, 111, 110, 101, 58, 32, 110, 97, 109, 101]
  | 6 => [114, 97, 121, 99, 111, 110, 101, 58, 32, 110, 111, 110, 101]
  | 7 => [114, 97, 121, 99, 111, 110, 101, 58, 32, 111, 114, 100, 101, 114]
  | 8 => [114, 97, 121, 99, 111, 110, 101, 58, 32, 112, 114, 111, 111, 102]
  | _ => []
theorem txt_inj : ∀ c d : Fin 8, txt (c + 1) = txt (d + 1) → c = d := by decide
abbrev adr8 (f : Nat → Addr) : EA := ⟨fun c => f c.toNat⟩
theorem errs9 {l : List (String × DataW Unit)} {W : World} (hL : laidMetH Tryd.prog l W)
    (h1 : (l.filter fun x => x.1 == "raycone/api.ErrText") = [("raycone/api.ErrText", .iface "*errors.errorString" (.ptr (.agg [.lit (.string (txt 1))])))])
    (h2 : (l.filter fun x => x.1 == "raycone/api.ErrBound") = [("raycone/api.ErrBound", .iface "*errors.errorString" (.ptr (.agg [.lit (.string (txt 2))])))])
    (h3 : (l.filter fun x => x.1 == "raycone/api.ErrShape") = [("raycone/api.ErrShape", .iface "*errors.errorString" (.ptr (.agg [.lit (.string (txt 3))])))])
    (h4 : (l.filter fun x => x.1 == "raycone/api.ErrEmpty") = [("raycone/api.ErrEmpty", .iface "*errors.errorString" (.ptr (.agg [.lit (.string (txt 4))])))])
    (h5 : (l.filter fun x => x.1 == "raycone/api.ErrName") = [("raycone/api.ErrName", .iface "*errors.errorString" (.ptr (.agg [.lit (.string (txt 5))])))])
    (h6 : (l.filter fun x => x.1 == "raycone/api.ErrNone") = [("raycone/api.ErrNone", .iface "*errors.errorString" (.ptr (.agg [.lit (.string (txt 6))])))])
    (h7 : (l.filter fun x => x.1 == "raycone/api.ErrOrder") = [("raycone/api.ErrOrder", .iface "*errors.errorString" (.ptr (.agg [.lit (.string (txt 7))])))])
    (h8 : (l.filter fun x => x.1 == "raycone/api.ErrProof") = [("raycone/api.ErrProof", .iface "*errors.errorString" (.ptr (.agg [.lit (.string (txt 8))])))])
    (hT : (l.filter fun x => x.1 == "errors.errorType") = [("errors.errorType", .iface "internal/reflectlite.rtype" (.agg [.ptr (.lit (.string [101, 114, 114, 111, 114]))]))]) : ∃ E : EA, @ErrAll E W := by
  obtain ⟨a1, s1, c1, t1, i1, j1, x1, o1⟩ := sentinelO hL (g := 2) (by kernel_rfl) (by kernel_rfl) h1
  obtain ⟨a2, s2, c2, t2, i2, j2, x2, o2⟩ := sentinelO hL (g := 1) (by kernel_rfl) (by kernel_rfl) h2
  obtain ⟨a3, s3, c3, t3, i3, j3, x3, o3⟩ := sentinelO hL (g := 0) (by kernel_rfl) (by kernel_rfl) h3
  obtain ⟨a4, s4, c4, t4, i4, j4, x4, o4⟩ := sentinelO hL (g := 4) (by kernel_rfl) (by kernel_rfl) h4
  obtain ⟨a5, s5, c5, t5, i5, j5, x5, o5⟩ := sentinelO hL (g := 5) (by kernel_rfl) (by kernel_rfl) h5
  obtain ⟨a6, s6, c6, t6, i6, j6, x6, o6⟩ := sentinelO hL (g := 6) (by kernel_rfl) (by kernel_rfl) h6
  obtain ⟨a7, s7, c7, t7, i7, j7, x7, o7⟩ := sentinelO hL (g := 3) (by kernel_rfl) (by kernel_rfl) h7
  obtain ⟨a8, s8, c8, t8, i8, j8, x8, o8⟩ := sentinelO hL (g := 7) (by kernel_rfl) (by kernel_rfl) h8
  have ht := handle hL hT
  let f : Nat → Addr := fun c => if c = 1 then a1 else if c = 2 then a2 else if c = 3 then a3 else if c = 4 then a4 else if c = 5 then a5 else if c = 6 then a6 else if c = 7 then a7 else a8
  have hs : ∀ c : Nat, 1 ≤ c → c ≤ 8 → ∃ s : ByteArray, W.cell? (f c) = some (.string s) ∧ s.data.toList = txt c := by
    intro c h1 h8
    match c, h1, h8 with
    | 1, _, _ => exact ⟨s1, j1, x1⟩
    | 2, _, _ => exact ⟨s2, j2, x2⟩
    | 3, _, _ => exact ⟨s3, j3, x3⟩
    | 4, _, _ => exact ⟨s4, j4, x4⟩
    | 5, _, _ => exact ⟨s5, j5, x5⟩
    | 6, _, _ => exact ⟨s6, j6, x6⟩
    | 7, _, _ => exact ⟨s7, j7, x7⟩
    | 8, _, _ => exact ⟨s8, j8, x8⟩
  have ho : ∀ c : Nat, 1 ≤ c → c ≤ 8 → ∃ cs t, W.heap[(f c).block]? = some (.cells cs t (0, 0)) := by
    intro c h1 h8
    match c, h1, h8 with
    | 1, _, _ => exact ⟨c1, t1, o1⟩
    | 2, _, _ => exact ⟨c2, t2, o2⟩
    | 3, _, _ => exact ⟨c3, t3, o3⟩
    | 4, _, _ => exact ⟨c4, t4, o4⟩
    | 5, _, _ => exact ⟨c5, t5, o5⟩
    | 6, _, _ => exact ⟨c6, t6, o6⟩
    | 7, _, _ => exact ⟨c7, t7, o7⟩
    | 8, _, _ => exact ⟨c8, t8, o8⟩
  refine ⟨adr8 f, @ErrAll.mk (adr8 f) W (@ErrAt.mk (adr8 f) _ _ _ i1) (@ErrAt.mk (adr8 f) _ _ _ i2) (@ErrAt.mk (adr8 f) _ _ _ i3) (@ErrAt.mk (adr8 f) _ _ _ i4) (@ErrAt.mk (adr8 f) _ _ _ i5) (@ErrAt.mk (adr8 f) _ _ _ i6) (@ErrAt.mk (adr8 f) _ _ _ i7) (@ErrAt.mk (adr8 f) _ _ _ i8) ht (fun c h1 h8 => ho c h1 h8) (fun c d h1 h8 k1 k8 he => ?_)⟩
  obtain ⟨s, q1, q2⟩ := hs c h1 h8
  obtain ⟨u, q3, q4⟩ := hs d k1 k8
  have he' : f c = f d := he
  rw [he', q3] at q1
  have : s = u := by injection q1 with q1; injection q1 with q1; exact q1.symm
  subst this
  have hx : txt c = txt d := q2.symm.trans q4
  have := txt_inj ⟨c - 1, by omega⟩ ⟨d - 1, by omega⟩ (by simpa [show c - 1 + 1 = c by omega, show d - 1 + 1 = d by omega] using hx)
  have := Fin.mk.inj this
  omega
end Go.Proofs.Rcp
