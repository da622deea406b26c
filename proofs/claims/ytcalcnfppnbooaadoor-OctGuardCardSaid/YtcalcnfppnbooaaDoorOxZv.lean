import Derived.Test.YtcalcnfppnbooaaDoorOxZf
import Derived.Test.YtcalcnfppnbooaaDoorOxZw
import Derived.Test.YtcalcnfppnbooaaDoorOxEb
import Derived.Shelf.Abstract
/- Package zone: the contracts of clone, close, far, Valid, variable, as the printed texts ask them; what a walk carries. -/
set_option linter.unusedVariables false
namespace Go.Proofs.Rcg
open Go Go.RowKit Go.Proofs.Rcn Go.Proofs.YtcalcnfppnbooaaDoor.Z Go.Proofs.YtcalcnfppnbooaaDoorW.PrintWords

theorem cg_cels (l : List ZC) (j : Nat) (h : j < l.length) : cg (cels l) j = cel l[j] := by
  simp [cg, cels, List.getD_eq_getElem?_getD, List.getElem?_map, List.getElem?_eq_getElem h]
theorem rcel_of_C {w : World} {A : Option Addr} {l : List ZC} (h : Kd.C k120 w A l.length l) : RCel w A l.length (cels l) := by
  refine ⟨cels_length l, fun hn => ?_⟩
  obtain ⟨ad, e, hc⟩ := h.2.2 hn
  have each : ∀ j, j < l.length → w.cell? (ad.add (j * 2)) = some (.bool (cg (cels l) j).has) ∧ w.cell? (ad.add (j * 2 + 1)) = some (.int .i64 (cg (cels l) j).most) := by
    intro j hj
    obtain ⟨c, hl, hk, hx⟩ := hc j _ (List.getElem?_eq_getElem hj)
    obtain rfl := k120_open hk
    have h0 := hx 0 _ rfl
    have h1 := hx 1 _ rfl
    rw [cg_cels l j hj]
    exact ⟨h0, h1⟩
  have hsp : ad.spot = none := by
    have := World.cell?_spot (each 0 hn).1
    simpa [Addr.add] using this
  refine ⟨ad.block, ad.off, by rw [e]; cases ad; simp only at hsp; subst hsp; rfl, fun j hj => ?_⟩
  have := each j hj
  rw [flat_addr hsp, flat_addr hsp] at this
  exact this
theorem cvs_part (L : List Cel) : ∀ j c, L[j]? = some c → (cvs L |>.drop (j * 2)).take 2 = [.bool c.has, .int .i64 c.most] := by
  induction L with
  | nil => intro j c h; simp at h
  | cons a L ih =>
    intro j c h
    cases j with
    | zero =>
      simp at h
      subst h
      rfl
    | succ j =>
      rw [cvs_cons, show (j + 1) * 2 = j * 2 + 1 + 1 by omega, List.drop_succ_cons, List.drop_succ_cons]
      exact ih j c (by simpa using h)
theorem R_of_zrow {w : World} {base : Nat} {v : Value} {L : List Cel} (h : ZRow w base zC v L) : Kd.R k120 120 w base (fun _ => True) v (zces L) := by
  refine ⟨fun _ _ => trivial, cvs L, ?_, by rw [cvs_length, zces_length]; rfl, ?_⟩
  · have := h.out
    rw [zces_length]
    exact this
  · intro j p hp
    have hj : j < L.length := by have := (List.getElem?_eq_some_iff.1 hp).1; rwa [zces_length] at this
    have e : L[j]? = some (cel p) := by
      rw [List.getElem?_eq_getElem hj]
      simp only [zces, List.getElem?_map, List.getElem?_eq_getElem hj, Option.map_some, Option.some.injEq] at hp
      rw [← hp]
      rfl
    have := cvs_part L j _ e
    show k120.M w base _ p (((cvs L).drop (j * 2)).take 2)
    rw [this]
    exact k120_mkM _ _ _ p
theorem R_nilZ (w : World) (base : Nat) : Kd.R k120 120 w base (fun _ => True) (.slice none 0 0) ([] : List ZC) := Kd.R_nil _ _ _ _ _

end Go.Proofs.Rcg

set_option linter.unusedVariables false
set_option linter.unusedSimpArgs false
namespace Go.Proofs.Rcg
open Go Go.RowKit Go.Proofs.Rcn Go.Proofs.YtcalcnfppnbooaaDoor.Z Go.Proofs.YtcalcnfppnbooaaDoorW.PrintWords

theorem zfar_any (m : Int) (w : World) : Calls Tryd.prog 84 #[.int .i64 m] w fun e w' => e = .returned (.bool (zfar m)) ∧ w' = w := by
  unfold zfar
  by_cases h1 : (1099511627776 : Int) < m
  · have h1' : decide ((1099511627776 : Int) < m) = true := decide_eq_true h1
    rw [decide_eq_true (.inl h1)]
    go_enter Tryd.func84, Tryd.ntmps84
    go_wp2
    go_ret
    exact ⟨rfl, rfl⟩
  · have h1' : decide ((1099511627776 : Int) < m) = false := decide_eq_false h1
    by_cases h2 : m < -1099511627776
    · have h2' : decide (m < -1099511627776) = true := decide_eq_true h2
      rw [decide_eq_true (.inr h2)]
      go_enter Tryd.func84, Tryd.ntmps84
      go_wp2
      go_ret
      exact ⟨rfl, rfl⟩
    · have h2' : decide (m < -1099511627776) = false := decide_eq_false h2
      rw [decide_eq_false (by omega)]
      go_enter Tryd.func84, Tryd.ntmps84
      go_wp2
      go_ret
      exact ⟨rfl, rfl⟩
theorem zlit_any (h : Bool) (m : Int) (w : World) : Calls Tryd.prog 88 #[.agg #[.bool h, .int .i64 m]] w fun e w' => e = .returned (.bool (zfar m)) ∧ Below w.heap.size w w' := by
  cases hf : zfar m
  all_goals
    have hc := fun W => zfar_any m W
    rw [hf] at hc
    go_enter Tryd.func88, Tryd.ntmps88
    go_wp2_with (go_at_call 84; refine (hc _).mono ?_; rintro e w' ⟨rfl, rfl⟩)
    go_ret
    exact ⟨rfl, Go.Proofs.Rcn.below_alloc (Below.refl _ _) _⟩

/-- The first index at which p holds, from k on; -1. -/
def firstAt (p : Cel → Bool) (L : List Cel) (r : Int) : Prop := (r = -1 ∧ ∀ j, j < L.length → p (cg L j) = false) ∨ (∃ k : Nat, r = k ∧ k < L.length ∧ p (cg L k) = true)
def IdxPost (L : List Cel) (w : World) (e : Ending) (w' : World) : Prop := (∃ r : Int, e = .returned (.int .i64 r) ∧ firstAt (fun c => zfar c.most) L r) ∧ Below w.heap.size w w'
set_option maxRecDepth 100000 in
set_option maxHeartbeats 1000000 in
theorem zindex_any (A : Option Addr) (n c : Nat) (L : List Cel) (w : World) (hz : RCel w A n L) (hl : n ≤ 1000) :
    Calls Tryd.prog 130 #[.slice A n c, .func (.func 88) #[] #[]] w (IdxPost L w) := by
  have HL := Lib.hid hz.1
  have HZ := Lib.hid hz
  clear hz
  go_enter Tryd.func130, Tryd.ntmps130
  go_wp2
  go_loopg [5, 8] n (fun gg _ s8 wr => ∃ kk : Nat, kk ≤ n ∧ n - kk ≤ gg ∧ s8 = .int .i64 kk ∧ Hid (Below w.heap.size w wr) ∧ Hid (∀ j, j < kk → zfar (cg L j).most = false))
  case atStart => exact ⟨0, Nat.zero_le _, by omega, rfl, Below.refl _ w, fun j hj => absurd hj (Nat.not_lt_zero _)⟩
  case round =>
    obtain ⟨kk, hkk, hg, rfl, BW, HA⟩ := hrel
    by_cases hlt : kk < n
    · have hltz : (kk : Int) < (n : Int) := by omega
      obtain ⟨g, o, rfl, hcell⟩ := (HZ.out.below BW.out).2 (by omega)
      have c0 := (hcell kk hlt).1
      have c1 := (hcell kk hlt).2
      clear hcell
      have HK : Hid (∀ b : Bool, zfar (cg L kk).most = b → zfar (cg L kk).most = b) := fun _ h => h
      generalize (cg L kk).has = a at c0
      generalize hm : (cg L kk).most = m at c1
      have HM := Lib.hid hm
      clear hm
      have hc := fun W => zlit_any a m W
      cases hf : zfar m with
      | true =>
        have HF := Lib.hid hf
        rw [hf] at hc
        clear hf
        go_wp2_with (go_at_call 88; refine (hc _).mono ?_; rintro e w1 ⟨rfl, hb1⟩)
        go_ret
        exact ⟨⟨_, rfl, .inr ⟨kk, rfl, by rw [HL.out]; exact hlt, by show zfar _ = true; rw [HM.out]; exact HF.out⟩⟩, below_then BW.out hb1⟩
      | false =>
        have HF := Lib.hid hf
        rw [hf] at hc
        clear hf
        go_wp2_with (go_at_call 88; refine (hc _).mono ?_; rintro e w1 ⟨rfl, hb1⟩; have HB1 := Lib.hid hb1; clear hb1)
        go_roundg (n - (kk + 1))
        case measure => omega
        case rel => exact ⟨kk + 1, by omega, by omega, by go_num, below_then BW.out HB1.out, fun j hj => by
          rcases Nat.lt_or_ge j kk with h | h
          · exact HA.out j h
          · obtain rfl : j = kk := by omega
            rw [HM.out]
            exact HF.out⟩
    · obtain rfl : kk = n := by omega
      go_wp2
      go_ret
      exact ⟨⟨_, rfl, .inl ⟨rfl, fun j hj => HA.out j (by rw [HL.out] at hj; exact hj)⟩⟩, BW.out⟩
theorem anyFar (L : List Cel) : (L.any fun c => zfar c.most) = true ↔ ∃ k, k < L.length ∧ zfar (cg L k).most = true := by
  rw [List.any_eq_true]
  constructor
  · rintro ⟨x, hx, h⟩
    obtain ⟨k, hk, rfl⟩ := List.getElem_of_mem hx
    exact ⟨k, hk, by simpa [cg, List.getD_eq_getElem?_getD, List.getElem?_eq_getElem hk] using h⟩
  · rintro ⟨k, hk, h⟩
    exact ⟨L[k], List.getElem_mem hk, by simpa [cg, List.getD_eq_getElem?_getD, List.getElem?_eq_getElem hk] using h⟩
set_option maxRecDepth 100000 in
theorem zcont_any (A : Option Addr) (n c : Nat) (L : List Cel) (w : World) (hz : RCel w A n L) (hl : n ≤ 1000) :
    Calls Tryd.prog 87 #[.slice A n c, .func (.func 88) #[] #[]] w fun e w' => e = .returned (.bool (L.any fun c => zfar c.most)) ∧ Below w.heap.size w w' := by
  have hi := fun W (h : Below w.heap.size w W) => zindex_any A n c L W (hz.below h) hl
  clear hz
  have HI := Lib.hid hi
  clear hi
  obtain ⟨r, hr⟩ : ∃ r : Bool, r = L.any fun c => zfar c.most := ⟨_, rfl⟩
  rw [← hr]
  have HR := Lib.hid hr
  clear hr
  go_enter Tryd.func87, Tryd.ntmps87
  go_wp2_with fail
  refine (HI.out _ (Below.refl _ _)).mono ?_
  rintro e w1 ⟨⟨q, rfl, hq⟩, hb⟩
  have HB := Lib.hid hb
  clear hb
  rcases hq with ⟨rfl, hn⟩ | ⟨k, rfl, hk, hp⟩
  · obtain rfl : r = false := by
      rw [HR.out]
      refine Bool.eq_false_iff.2 fun h => ?_
      obtain ⟨k, hk, hf⟩ := (anyFar L).1 h
      have h3 : zfar (cg L k).most = false := hn k hk
      rw [hf] at h3
      cases h3
    clear hn
    go_wp2
    go_ret
    exact ⟨rfl, HB.out⟩
  · obtain rfl : r = true := by
      rw [HR.out]
      exact (anyFar L).2 ⟨k, hk, hp⟩
    clear hk hp
    go_wp2
    go_ret
    exact ⟨rfl, HB.out⟩
end Go.Proofs.Rcg

set_option linter.unusedVariables false
set_option linter.unusedSimpArgs false
namespace Go.Proofs.Rcg
open Go Go.RowKit Go.Proofs.Rcn Go.Proofs.YtcalcnfppnbooaaDoor.Z Go.Proofs.YtcalcnfppnbooaaDoorW.PrintWords

/-- A bound where there is none. -/
def bad (c : Cel) : Bool := !c.has && c.most != 0
theorem anyBad_false {L : List Cel} (h : ∀ j, j < L.length → bad (cg L j) = false) : (L.any bad) = false := by
  rw [Bool.eq_false_iff]
  intro q
  obtain ⟨x, hx, hb⟩ := List.any_eq_true.1 q
  obtain ⟨k, hk, rfl⟩ := List.getElem_of_mem hx
  have := h k hk
  rw [show cg L k = L[k] by simp [cg, List.getD_eq_getElem?_getD, List.getElem?_eq_getElem hk]] at this
  rw [this] at hb
  cases hb
theorem anyBad_true {L : List Cel} {k : Nat} (hk : k < L.length) (h : bad (cg L k) = true) : (L.any bad) = true := by
  rw [show cg L k = L[k] by simp [cg, List.getD_eq_getElem?_getD, List.getElem?_eq_getElem hk]] at h
  exact List.any_eq_true.2 ⟨_, List.getElem_mem hk, h⟩
theorem zErr_eq (N : Int) (L : List Cel) : zErr N L = if N < 0 ∨ N > 4 then some 2 else if (L.length : Int) ≠ (N + 1) * (N + 1) then some 3 else if L.any bad = true then some 3 else if (L.any fun c => zfar c.most) = true then some 2 else none := rfl

def VPost [EA] (r : Option Int) (w : World) (e : Ending) (w' : World) : Prop := e = .returned (errW r) ∧ Below w.heap.size w w'

set_option maxRecDepth 100000 in
set_option maxHeartbeats 2000000 in
/-- Behind the tests of the sizes. -/
theorem zvalid_any [EA] (A : Option Addr) (n c : Nat) (N : Int) (L : List Cel) (w : World) (hz : RCel w A n L) (h2 : ErrAt 2 1 w) (h3 : ErrAt 3 0 w) :
    Calls Tryd.prog 21 #[.agg #[.int .i64 N, .slice A n c]] w (VPost (zErr N L) w) := by
  have HL := Lib.hid hz.1
  have HZ := Lib.hid hz
  have HE2 := Lib.hid h2
  have HE3 := Lib.hid h3
  have c2 := h2.cell
  have c3 := h3.cell
  have l2 := h2.lt
  have l3 := h3.lt
  have HR : Hid (∀ r, r = zErr N L → r = zErr N L) := fun _ h => h
  clear hz h2 h3
  by_cases hN1 : N < 0
  · obtain ⟨r, hr⟩ : ∃ r, r = zErr N L := ⟨_, rfl⟩
    rw [← hr]
    obtain rfl : r = some 2 := by rw [hr, zErr_eq, if_pos (.inl hN1)]
    clear hr
    go_enter Tryd.func21, Tryd.ntmps21
    go_wp2
    go_ret
    exact ⟨rfl, Go.Proofs.Rcn.below_alloc (Below.refl _ _) _⟩
  by_cases hN2 : 4 < N
  · obtain ⟨r, hr⟩ : ∃ r, r = zErr N L := ⟨_, rfl⟩
    rw [← hr]
    obtain rfl : r = some 2 := by rw [hr, zErr_eq, if_pos (.inr hN2)]
    clear hr
    go_enter Tryd.func21, Tryd.ntmps21
    go_wp2
    go_ret
    exact ⟨rfl, Go.Proofs.Rcn.below_alloc (Below.refl _ _) _⟩
  obtain ⟨m, hm⟩ : ∃ m : Int, m = (N + 1) * (N + 1) := ⟨_, rfl⟩
  have hmb : 0 ≤ m ∧ m ≤ 25 := by
    have : N = 0 ∨ N = 1 ∨ N = 2 ∨ N = 3 ∨ N = 4 := by omega
    rcases this with rfl | rfl | rfl | rfl | rfl <;> omega
  have hw : IntKind.i64.wrap ((N + 1) * (N + 1)) = m := by rw [← hm]; exact IntWalk.i64_in _ (by omega)
  have hN3 : ¬ (N < 0 ∨ N > 4) := by omega
  have HM := Lib.hid hm
  have HN3 := Lib.hid hN3
  clear hm hN3
  by_cases hlen : (n : Int) = m
  · subst hlen
    clear hmb
    have hn : n ≤ 25 := by
      have h5 := HM.out
      have : N = 0 ∨ N = 1 ∨ N = 2 ∨ N = 3 ∨ N = 4 := by omega
      rcases this with rfl | rfl | rfl | rfl | rfl <;> omega
    have HV : Hid (∀ r, r = (if L.any bad = true then some 3 else if (L.any fun c => zfar c.most) = true then some 2 else none) → r = zErr N L) := fun r hr => by
      rw [hr, zErr_eq, if_neg HN3.out, if_neg (show ¬ ((L.length : Int) ≠ (N + 1) * (N + 1)) from fun h => h (by rw [HL.out]; exact HM.out))]
    obtain ⟨w1, hw1⟩ : ∃ w1, w1 = w.alloc (.cells #[.int .i64 N, .slice A n c] 30) := ⟨_, rfl⟩
    have hb1 : Below w.heap.size w w1 := by rw [hw1]; exact Go.Proofs.Rcn.below_alloc (Below.refl _ _) _
    have b0 : w1.cell? ⟨w.heap.size, 0, none⟩ = some (.int .i64 N) := by rw [hw1]; simp [go_sem]
    have b1 : w1.cell? ⟨w.heap.size, 1, none⟩ = some (.slice A n c) := by rw [hw1]; simp [go_sem]
    have hs1 : w.heap.size < w1.heap.size := by rw [hw1]; simp
    have HW1 := Lib.hid hw1
    have HB1 := Lib.hid hb1
    have HC0 := Lib.hid b0
    have HC1 := Lib.hid b1
    have HS1 := Lib.hid hs1
    clear hw1 hb1 b0 b1 hs1
    obtain ⟨r, hr⟩ : ∃ r, r = zErr N L := ⟨_, rfl⟩
    rw [← hr]
    have HRR := Lib.hid hr
    clear hr HR
    go_enter Tryd.func21, Tryd.ntmps21
    go_wp2
    go_loopg [29] n (fun gg s29 wr => ∃ kk : Nat, kk ≤ n ∧ n - kk ≤ gg ∧ s29 = .int .i64 kk ∧ Hid (Below w1.heap.size w1 wr) ∧ Hid (∀ j, j < kk → bad (cg L j) = false))
    case atStart => exact ⟨0, Nat.zero_le _, by omega, rfl, by show Below _ _ _; rw [HW1.out]; exact Below.refl _ _, fun j hj => absurd hj (Nat.not_lt_zero _)⟩
    case round =>
      obtain ⟨kk, hkk, hg, rfl, BW, HA⟩ := hrel
      have HBW : Hid (Below w.heap.size w wr) := HB1.out.trans (BW.out.mono (Nat.le_of_lt HS1.out))
      have d2 := (HE2.out.below HBW.out).cell
      have d3 := (HE3.out.below HBW.out).cell
      have d2l := (HE2.out.below HBW.out).lt
      have d3l := (HE3.out.below HBW.out).lt
      have k0 := (BW.out.cell (p := ⟨w.heap.size, 0, none⟩) HS1.out).trans HC0.out
      have k1 := (BW.out.cell (p := ⟨w.heap.size, 1, none⟩) HS1.out).trans HC1.out
      have ks : w.heap.size < wr.heap.size := Nat.lt_of_lt_of_le HS1.out BW.out.size
      by_cases hlt : kk < n
      · have hltz : (kk : Int) < (n : Int) := by omega
        obtain ⟨g, o, rfl, hcell⟩ := (HZ.out.below HBW.out).2 (by omega)
        have c0 := (hcell kk hlt).1
        have c1 := (hcell kk hlt).2
        clear hcell
        generalize ha : (cg L kk).has = a at c0
        generalize hm : (cg L kk).most = m at c1
        have HX : Hid (bad (cg L kk) = bad ⟨a, m⟩) := by show bad _ = _; unfold bad; rw [ha, hm]
        clear ha hm
        have next : ∀ wr' : World, Below wr.heap.size wr wr' → Below w1.heap.size w1 wr' := fun wr' h => below_then BW.out h
        have HNX := Lib.hid next
        clear next
        cases a with
        | true =>
          go_wp2
          go_roundg (n - (kk + 1))
          case measure => omega
          case rel => exact ⟨kk + 1, by omega, by omega, by go_num, HNX.out _ (by repeat (first | exact Below.refl _ _ | refine Go.Proofs.Rcn.below_alloc ?_ _ | refine below_set ?_ (Nat.le_refl _) _ | refine below_drew ?_)), fun j hj => by
            rcases Nat.lt_or_ge j kk with h | h
            · exact HA.out j h
            · obtain rfl : j = kk := by omega
              rw [HX.out]; rfl⟩
        | false =>
          by_cases hm0 : m = 0
          · subst hm0
            go_wp2
            go_roundg (n - (kk + 1))
            case measure => omega
            case rel => exact ⟨kk + 1, by omega, by omega, by go_num, HNX.out _ (by repeat (first | exact Below.refl _ _ | refine Go.Proofs.Rcn.below_alloc ?_ _ | refine below_set ?_ (Nat.le_refl _) _ | refine below_drew ?_)), fun j hj => by
              rcases Nat.lt_or_ge j kk with h | h
              · exact HA.out j h
              · obtain rfl : j = kk := by omega
                rw [HX.out]; rfl⟩
          · have hm1 : (m != 0) = true := by simpa using hm0
            have hm2 : (m == 0) = false := by simpa using hm0
            clear hm0
            obtain rfl : r = some 3 := by
              rw [HRR.out]
              refine (HV.out (some 3) ?_).symm
              rw [if_pos (anyBad_true (by rw [HL.out]; exact hlt) (by rw [HX.out]; simp [bad, hm1]))]
            go_wp2
            go_ret
            exact ⟨rfl, below_then HBW.out (by repeat (first | exact Below.refl _ _ | refine Go.Proofs.Rcn.below_alloc ?_ _ | refine below_set ?_ (Nat.le_refl _) _ | refine below_drew ?_))⟩
      · obtain rfl : kk = n := by omega
        have HAB : Hid (L.any bad = false) := anyBad_false fun j hj => HA.out j (by rw [HL.out] at hj; exact hj)
        have HZ' := Lib.hid (HZ.out.below HBW.out)
        obtain ⟨f, hf⟩ : ∃ f, f = L.any fun c => zfar c.most := ⟨_, rfl⟩
        have hc := fun W h => zcont_any A kk c L W (HZ'.out.below h) (by omega)
        rw [← hf] at hc
        have HF := Lib.hid hf
        have HCC := Lib.hid hc
        clear hf hc
        cases f with
        | true =>
          obtain rfl : r = some 2 := by
            rw [HRR.out]
            refine (HV.out (some 2) ?_).symm
            rw [HAB.out, ← HF.out]
            rfl
          go_wp2_with fail
          refine (HCC.out _ (Below.refl _ _)).mono ?_
          rintro e w2 ⟨rfl, hb2⟩
          have e2 := (HE2.out.below (below_then HBW.out hb2)).cell
          have e2l := (HE2.out.below (below_then HBW.out hb2)).lt
          have HB2 := Lib.hid hb2
          clear hb2
          go_wp2
          go_ret
          exact ⟨rfl, below_then HBW.out HB2.out⟩
        | false =>
          obtain rfl : r = none := by
            rw [HRR.out]
            refine (HV.out none ?_).symm
            rw [HAB.out, ← HF.out]
            rfl
          go_wp2_with fail
          refine (HCC.out _ (Below.refl _ _)).mono ?_
          rintro e w2 ⟨rfl, hb2⟩
          have HB2 := Lib.hid hb2
          clear hb2
          go_wp2
          go_ret
          exact ⟨rfl, below_then HBW.out HB2.out⟩
  · obtain ⟨r, hr⟩ : ∃ r, r = zErr N L := ⟨_, rfl⟩
    rw [← hr]
    obtain rfl : r = some 3 := by rw [hr, zErr_eq, if_neg HN3.out, if_pos (by rw [HL.out, ← HM.out]; exact hlen)]
    clear hr
    go_enter Tryd.func21, Tryd.ntmps21
    go_wp2
    go_ret
    exact ⟨rfl, Go.Proofs.Rcn.below_alloc (Below.refl _ _) _⟩
end Go.Proofs.Rcg

set_option linter.unusedVariables false
set_option linter.unusedSimpArgs false
namespace Go.Proofs.Rcg
open Go Go.RowKit Go.Proofs.Rcn Go.Proofs.YtcalcnfppnbooaaDoor.Z Go.Proofs.YtcalcnfppnbooaaDoorW.PrintWords

/-- What a predicate tells in each world behind w. -/
def Tells (g : Nat) (lb : Array Value) (p : Int → Bool) (w : World) : Prop := ∀ (W : World) (x : Int), Below w.heap.size w W → Calls Tryd.prog g (#[.int .i64 x] ++ lb) W fun e w' => e = .returned (.bool (p x)) ∧ Below W.heap.size W w'
def IntPost (p : Int → Bool) (l : List Int) (w : World) (e : Ending) (w' : World) : Prop :=
  (∃ r : Int, e = .returned (.int .i64 r) ∧ ((r = -1 ∧ ∀ j, j < l.length → p (l.getD j 0) = false) ∨ (∃ k : Nat, r = k ∧ k < l.length ∧ p (l.getD k 0) = true))) ∧ Below w.heap.size w w'
set_option maxRecDepth 100000 in
set_option maxHeartbeats 1000000 in
theorem iindex_any (g : Nat) (lb : Array Value) (eg : ∀ args w, (callFunc g args).run Tryd.prog w = .ok (.enter g args) w) (p : Int → Bool) (A : Option Addr) (n c : Nat) (l : List Int) (w : World) (hz : RInts w A n l) (hl : n ≤ 4611686018427387904) (hp : Tells g lb p w) :
    Calls Tryd.prog 127 #[.slice A n c, .func (.func g) #[] lb] w (IntPost p l w) := by
  have HL := Lib.hid hz.1
  have HZ := Lib.hid hz
  have HP := Lib.hid hp
  clear hz hp
  go_enter Tryd.func127, Tryd.ntmps127
  go_wp2
  go_loopg [5, 8] n (fun gg _ s8 wr => ∃ kk : Nat, kk ≤ n ∧ n - kk ≤ gg ∧ s8 = .int .i64 kk ∧ Hid (Below w.heap.size w wr) ∧ Hid (∀ j, j < kk → p (l.getD j 0) = false))
  case atStart => exact ⟨0, Nat.zero_le _, by omega, rfl, Below.refl _ w, fun j hj => absurd hj (Nat.not_lt_zero _)⟩
  case round =>
    obtain ⟨kk, hkk, hg, rfl, BW, HA⟩ := hrel
    by_cases hlt : kk < n
    · have hltz : (kk : Int) < (n : Int) := by omega
      obtain ⟨b, o, rfl, hcell⟩ := (HZ.out.below BW.out).2 (by omega)
      have c0 := hcell kk hlt
      clear hcell
      have hc := fun W (h : Below wr.heap.size wr W) => HP.out W (l.getD kk 0) (below_then BW.out h)
      generalize hm : l.getD kk 0 = m at c0 hc
      have HM := Lib.hid hm
      clear hm
      cases hf : p m with
      | true =>
        have HF := Lib.hid hf
        rw [hf] at hc
        have HC := Lib.hid hc
        clear hf hc
        go_wp2_with (go_at_fn g; refine (HC.out _ (Below.refl _ _)).mono ?_; rintro e w1 ⟨rfl, hb1⟩)
        go_ret
        exact ⟨⟨_, rfl, .inr ⟨kk, rfl, by rw [HL.out]; exact hlt, by rw [HM.out]; exact HF.out⟩⟩, below_then BW.out hb1⟩
      | false =>
        have HF := Lib.hid hf
        rw [hf] at hc
        have HC := Lib.hid hc
        clear hf hc
        go_wp2_with (go_at_fn g; refine (HC.out _ (Below.refl _ _)).mono ?_; rintro e w1 ⟨rfl, hb1⟩; have HB1 := Lib.hid hb1; clear hb1)
        go_roundg (n - (kk + 1))
        case measure => omega
        case rel => exact ⟨kk + 1, by omega, by omega, by go_num, below_then BW.out HB1.out, fun j hj => by
          rcases Nat.lt_or_ge j kk with h | h
          · exact HA.out j h
          · obtain rfl : j = kk := by omega
            rw [HM.out]
            exact HF.out⟩
    · obtain rfl : kk = n := by omega
      go_wp2
      go_ret
      exact ⟨⟨_, rfl, .inl ⟨rfl, fun j hj => HA.out j (by rw [HL.out] at hj; exact hj)⟩⟩, BW.out⟩
theorem any_iff (p : Int → Bool) (l : List Int) : l.any p = true ↔ ∃ k, k < l.length ∧ p (l.getD k 0) = true := by
  rw [List.any_eq_true]
  constructor
  · rintro ⟨x, hx, h⟩
    obtain ⟨k, hk, rfl⟩ := List.getElem_of_mem hx
    exact ⟨k, hk, by simpa [List.getD_eq_getElem?_getD, List.getElem?_eq_getElem hk] using h⟩
  · rintro ⟨k, hk, h⟩
    exact ⟨l[k], List.getElem_mem hk, by simpa [List.getD_eq_getElem?_getD, List.getElem?_eq_getElem hk] using h⟩
set_option maxRecDepth 100000 in
theorem icont_any (g : Nat) (lb : Array Value) (eg : ∀ args w, (callFunc g args).run Tryd.prog w = .ok (.enter g args) w) (p : Int → Bool) (A : Option Addr) (n c : Nat) (l : List Int) (w : World) (hz : RInts w A n l) (hl : n ≤ 4611686018427387904) (hp : Tells g lb p w) :
    Calls Tryd.prog 83 #[.slice A n c, .func (.func g) #[] lb] w fun e w' => e = .returned (.bool (l.any p)) ∧ Below w.heap.size w w' := by
  have hi := iindex_any g lb eg p A n c l w hz hl hp
  have HI := Lib.hid hi
  clear hi hz hp
  obtain ⟨r, hr⟩ : ∃ r : Bool, r = l.any p := ⟨_, rfl⟩
  rw [← hr]
  have HR := Lib.hid hr
  clear hr
  go_enter Tryd.func83, Tryd.ntmps83
  go_wp2_with fail
  refine HI.out.mono ?_
  rintro e w1 ⟨⟨q, rfl, hq⟩, hb⟩
  have HB := Lib.hid hb
  clear hb
  rcases hq with ⟨rfl, hn⟩ | ⟨k, rfl, hk, hp⟩
  · obtain rfl : r = false := by
      rw [HR.out]
      refine Bool.eq_false_iff.2 fun h => ?_
      obtain ⟨k, hk, hf⟩ := (any_iff p l).1 h
      rw [hn k hk] at hf
      cases hf
    clear hn
    go_wp2
    go_ret
    exact ⟨rfl, HB.out⟩
  · obtain rfl : r = true := by
      rw [HR.out]
      exact (any_iff p l).2 ⟨k, hk, hp⟩
    clear hk hp
    go_wp2
    go_ret
    exact ⟨rfl, HB.out⟩

/-! ### variable -/
theorem zvlit_any (B C : Nat) (x a N : Int) (W : World) (hB : W.cell? ⟨B, 0, none⟩ = some (.int .i64 a)) (hC : W.cell? ⟨C, 0, none⟩ = some (.int .i64 N)) :
    Calls Tryd.prog 134 #[.int .i64 x, .pointer (some ⟨B, 0, none⟩), .pointer (some ⟨C, 0, none⟩)] W fun e w' => e = .returned (.bool (decide (x < a ∨ x > N))) ∧ Below W.heap.size W w' := by
  by_cases h1 : x < a
  · have h1' : decide (x < a) = true := decide_eq_true h1
    rw [decide_eq_true (.inl h1)]
    go_enter Tryd.func134, Tryd.ntmps134
    go_wp2
    go_ret
    exact ⟨rfl, Below.refl _ _⟩
  · have h1' : decide (x < a) = false := decide_eq_false h1
    by_cases h2 : N < x
    · have h2' : decide (N < x) = true := decide_eq_true h2
      rw [decide_eq_true (.inr h2)]
      go_enter Tryd.func134, Tryd.ntmps134
      go_wp2
      go_ret
      exact ⟨rfl, Below.refl _ _⟩
    · have h2' : decide (N < x) = false := decide_eq_false h2
      rw [decide_eq_false (by omega)]
      go_enter Tryd.func134, Tryd.ntmps134
      go_wp2
      go_ret
      exact ⟨rfl, Below.refl _ _⟩
set_option maxRecDepth 100000 in
theorem zvar_any (A : Option Addr) (n c : Nat) (N a : Int) (A2 : Option Addr) (n2 c2 : Nat) (l : List Int) (w : World) (hz : RInts w A2 n2 l) (hl : n2 ≤ 4611686018427387904) :
    Calls Tryd.prog 103 #[.agg #[.int .i64 N, .slice A n c], .int .i64 a, .slice A2 n2 c2] w fun e w' => e = .returned (.bool (!l.any fun x => decide (x < a ∨ x > N))) ∧ Below w.heap.size w w' := by
  obtain ⟨w2, hw2⟩ : ∃ w2, w2 = (w.alloc (.cells #[.int .i64 N, .slice A n c] 30)).alloc (.cells #[.int .i64 a] 3) := ⟨_, rfl⟩
  have hb2 : Below w.heap.size w w2 := by rw [hw2]; exact Go.Proofs.Rcn.below_alloc (Go.Proofs.Rcn.below_alloc (Below.refl _ _) _) _
  have b0 : w2.cell? ⟨w.heap.size, 0, none⟩ = some (.int .i64 N) := by rw [hw2]; simp [go_sem]
  have b1 : w2.cell? ⟨w.heap.size + 1, 0, none⟩ = some (.int .i64 a) := by rw [hw2]; simp [go_sem]
  have hs2 : w.heap.size + 1 < w2.heap.size := by rw [hw2]; simp
  have hc := icont_any 134 #[.pointer (some ⟨w.heap.size + 1, 0, none⟩), .pointer (some ⟨w.heap.size, 0, none⟩)] (enters_of Tryd.func134 (by kernel_rfl) rfl) (fun x => decide (x < a ∨ x > N)) A2 n2 c2 l w2 (hz.below hb2) hl
    (fun W x hW => zvlit_any _ _ x a N W ((hW.cell (p := ⟨w.heap.size + 1, 0, none⟩) hs2).trans b1) ((hW.cell (p := ⟨w.heap.size, 0, none⟩) (Nat.lt_of_succ_lt hs2)).trans b0))
  have HB2 := Lib.hid hb2
  rw [hw2] at hc
  clear hb2 b0 b1 hs2 hz
  obtain ⟨r, hr⟩ : ∃ r : Bool, r = l.any fun x => decide (x < a ∨ x > N) := ⟨_, rfl⟩
  rw [← hr] at hc ⊢
  have HC := Lib.hid hc
  have HW2 := Lib.hid hw2
  clear hc hr hw2
  go_enter Tryd.func103, Tryd.ntmps103
  go_wp2_with fail
  refine HC.out.mono ?_
  rintro e w3 ⟨rfl, hb⟩
  have HB := Lib.hid hb
  clear hb
  cases r
  all_goals
    go_wp2
    go_ret
    refine ⟨rfl, ?_⟩
    have := HB.out
    rw [← HW2.out] at this
    exact below_then HB2.out this
end Go.Proofs.Rcg

set_option linter.unusedVariables false
set_option linter.unusedSimpArgs false
namespace Go.Proofs.Rcg
open Go Go.RowKit Go.Proofs.Rcn Go.Proofs.YtcalcnfppnbooaaDoor.Z

/-- A variable of two cells. -/
structure Cell2 (W : World) (b : Nat) (u v : Value) : Prop where
  lt : b < W.heap.size
  c0 : W.cell? ⟨b, 0, none⟩ = some u
  c1 : W.cell? ⟨b, 1, none⟩ = some v
  f0 : W.frozen? ⟨b, 0, none⟩ = false
  f1 : W.frozen? ⟨b, 1, none⟩ = false
section
variable {W w1 : World} {b : Nat} {u v : Value}
theorem Cell2.below (h : Cell2 W b u v) (hb : Below W.heap.size W w1) : Cell2 w1 b u v :=
  ⟨Nat.lt_of_lt_of_le h.lt hb.size, cell_below hb h.c0, cell_below hb h.c1, ((bcell hb).2 _ _ h.lt).trans h.f0, ((bcell hb).2 _ _ h.lt).trans h.f1⟩
theorem Cell2.new (W : World) (u v : Value) (t : TypeId) : Cell2 (W.alloc (.cells #[u, v] t)) W.heap.size u v :=
  ⟨by simp, by simp [go_sem], by simp [go_sem], by simp [go_sem], by simp [go_sem]⟩
theorem Cell2.alloc (h : Cell2 W b u v) (o : Obj) : Cell2 (W.alloc o) b u v := h.below (Go.Proofs.Rcn.below_alloc (Below.refl _ _) o)
theorem Cell2.drew (h : Cell2 W b u v) : Cell2 W.drew b u v := ⟨h.lt, h.c0, h.c1, h.f0, h.f1⟩
theorem Cell2.set (h : Cell2 W b u v) {d : Nat} (hd : d ≠ b) (i : Nat) (x : Value) : Cell2 (W.setCell ⟨d, i, none⟩ x) b u v :=
  ⟨by simpa using h.lt, (cell_two _ _ _ _ _ _ (by omega)).trans h.c0, (cell_two _ _ _ _ _ _ (by omega)).trans h.c1, (frozen_set ..).trans h.f0, (frozen_set ..).trans h.f1⟩
theorem Cell2.put (h : Cell2 W b u v) (x y : Value) : Cell2 ((W.setCell ⟨b, 0, none⟩ x).setCell ⟨b, 1, none⟩ y) b x y := by
  refine ⟨by simpa using h.lt, ?_, ?_, (frozen_set ..).trans ((frozen_set ..).trans h.f0), (frozen_set ..).trans ((frozen_set ..).trans h.f1)⟩
  · simp [go_sem, h.c0, h.lt]
  · simp [go_sem, h.c1, h.lt]
theorem Cell2.but {g : Nat} (h : Cell2 W b u v) (hb : But g W w1) (hg : b ≠ g) : Cell2 w1 b u v :=
  ⟨Nat.lt_of_lt_of_le h.lt hb.size, hb.cell h.c0 hg, hb.cell h.c1 hg, (hb.frozen h.lt hg _).trans h.f0, (hb.frozen h.lt hg _).trans h.f1⟩
end
end Go.Proofs.Rcg
