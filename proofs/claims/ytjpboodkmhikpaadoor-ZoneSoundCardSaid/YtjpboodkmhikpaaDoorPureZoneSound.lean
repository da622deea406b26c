/- Plain law: the law 'ZoneSound' as it is printed is true, whatever it is given. -/
import Derived.Test.YtjpboodkmhikpaaDoorPz
import Derived.Test.YtjpboodkmhikpaaDoorZpt
import Derived.Test.YtjpboodkmhikpaaDoorZ11
import Derived.Test.YtjpboodkmhikpaaDoorZ10
set_option linter.unusedVariables false
namespace Go.Proofs.Rcp
open Go.RowKit Go.Proofs.Rcg Go.Proofs.Rcn Go.Proofs.YtjpboodkmhikpaaDoor.Z Go.Proofs.YtjpboodkmhikpaaDoorW.PrintWords Go.Proofs.YtjpboodkmhikpaaDoorW.PrintMore

theorem ints_val {l : List Int} (h : l.length ≤ 1000) : L2_ints.f l = some l := by
  unfold L2_ints.f
  simp
  omega
theorem has_err {N : Int} {L : List Cel} {e : Int} {p : List Int} (h : zErr N L = some e) : zone_Has.f N (zces L) p = some (false, some e) := by
  unfold zone_Has.f
  rw [cels_zces, h]
theorem has_val {N : Int} {L : List Cel} {n : Nat} {p : List Int} (h : zErr N L = none) (hn : N + 1 = n) (hp : (p.length : Int) = N) (hf : p.any zfar = false) : zone_Has.f N (zces L) p = some (hasAll n L (0 :: p), none) := by
  unfold zone_Has.f
  rw [cels_zces, h]
  simp only
  rw [if_neg (by omega), hf, if_neg (by decide), show (N + 1).toNat = n by omega]
theorem near_zfar {p : List Int} (h : ∀ x ∈ p, -1099511627776 ≤ x ∧ x ≤ 1099511627776) : p.any zfar = false := by
  rw [Bool.eq_false_iff]
  intro q
  obtain ⟨x, hx, hf⟩ := List.any_eq_true.1 q
  have := h x hx
  have := of_decide_eq_true hf
  omega
theorem forget_val {N x : Int} {L C : List Cel} {n : Nat} (h : zErr N L = none) (hn : N + 1 = n) (hx : 1 ≤ x ∧ x ≤ N) (hC : closeZ n L = some C) : zone_Forget.f N (zces L) x = some (N, zces (forgetL n x.toNat C), true, none) := by
  unfold zone_Forget.f
  rw [cels_zces, h]
  simp only
  rw [if_neg (by omega), show (N + 1).toNat = n by omega, hC]
theorem assign_val {N x y c : Int} {L C : List Cel} {n : Nat} (h : zErr N L = none) (hn : N + 1 = n) (hx : 1 ≤ x ∧ x ≤ N) (hy : 0 ≤ y ∧ y ≤ N) (hc : -1099511627776 ≤ c ∧ c ≤ 1099511627776) (hC : closeZ n L = some C) :
    zone_Assign.f N (zces L) x y c = some ((shutZ N (assignL n x.toNat y.toNat c C)).1, (shutZ N (assignL n x.toNat y.toNat c C)).2.1, (shutZ N (assignL n x.toNat y.toNat c C)).2.2, none) := by
  unfold zone_Assign.f
  rw [cels_zces, h]
  simp only
  rw [if_neg (by omega), show zfar c = false from decide_eq_false (by omega), if_neg (by decide), show (N + 1).toNat = n by omega, hC]
theorem join_val {N M : Int} {L K C : List Cel} {n : Nat} (h : zTwo N L M K = none) (hn : N + 1 = n) (hC : closeZ n L = some C) : zone_Join.f N (zces L) M (zces K) = some (N, zces (match closeZ n K with | none => C | some D => joinL C D), none) := by
  unfold zone_Join.f
  rw [cels_zces, cels_zces, h]
  simp only
  rw [show (N + 1).toNat = n by omega, hC]
  cases closeZ n K <;> rfl
theorem join_err {N M : Int} {L K : List Cel} {e : Int} (h : zTwo N L M K = some e) : zone_Join.f N (zces L) M (zces K) = some (0, [], some e) := by
  unfold zone_Join.f
  rw [cels_zces, cels_zces, h]
theorem getD_set {p : List Int} {k : Nat} {v : Int} (hk : k < p.length) (i : Nat) : (p.set k v).getD i 0 = if i = k then v else p.getD i 0 := by
  simp only [List.getD_eq_getElem?_getD, List.getElem?_set]
  by_cases e : i = k
  · subst e; simp [hk]
  · rw [if_neg e, if_neg (fun q => e q.symm)]
theorem mem_set {p : List Int} {k : Nat} {v x : Int} (h : x ∈ p.set k v) : x ∈ p ∨ x = v := List.mem_or_eq_of_mem_set h

section
variable {N M : Int} {l m : List RC} {p : List Int} {x y c : Int} {n : Nat}
theorem sound_j7 (hl : l.length ≤ 100) (hm : m.length ≤ 100) (h : zErr N (rels l) = none) (hn : N + 1 = n) (hp : (p.length : Int) = N) (hf : ∀ z ∈ p, -1048576 ≤ z ∧ z ≤ 1048576) (hs : hasAll n (rels l) (0 :: p) = true) :
    Ev (fun k => L2_ZoneSound.j7 k p false N l M m) true := by
  obtain ⟨n', hn', h1, h5, hlen, _, _⟩ := zErr_none h
  obtain rfl : n' = n := by omega
  obtain ⟨C, hC, hCl, hCn, hCb, hCs⟩ := closeZ_sat h5 hlen (norm_of h) (near_of h) ((hasAll_sat _ _ _).1 hs)
  refine Ev.step (fun k => by simp only [L2_ZoneSound.j7, Bool.false_eq_true, if_false]; rfl) ?_
  refine .bind (ev_zoneOf (by omega)) (.bind (ev_zoneOf (by omega)) ?_)
  cases hT : zTwo N (rels l) M (rels m) with
  | some e =>
    simp only [join_err hT]
    exact .bind .some (.neg (by simp) .some)
  | none =>
    simp only [join_val hT hn hC]
    refine .bind .some (.pos rfl ?_)
    rw [ints_val (by omega)]
    refine .bind .some ?_
    obtain ⟨_, e2, rfl⟩ := zTwo_none hT
    obtain ⟨n2, hn2, _, _, hlen2, _, _⟩ := zErr_none e2
    obtain rfl : n2 = n' := by omega
    have fin : ∀ J : List Cel, J.length = n2 * n2 → Norm J → Near 1099511627776 J → (∀ i j v, Bd n2 J i j v → Bd n2 C i j v) → Ev (fun k => (zone_Has.f N (zces J) p).bind fun bt442 => if bt442.2.isNone = true then some bt442.1 else none) true := by
      intro J j1 j2 j3 j4
      rw [has_val (zErr_ok hn h1 h5 j1 j2 j3) hn hp (near_zfar fun z hz => by have := hf z hz; omega), (hasAll_sat _ _ _).2 (fun i j v q => hCs i j v (j4 i j v q))]
      exact .bind .some (.pos rfl .some)
    cases hK : closeZ n2 (rels m) with
    | none => exact fin C hCl hCn hCb (fun _ _ _ q => q)
    | some D =>
      have hDl : D.length = C.length := by
        have := closed_some h5 hlen2 (near_of e2) hK
        rw [this.1, hCl]
      exact fin (joinL C D) (by rw [joinL_length]; exact hCl) (norm_joinL hDl hCn) (near_joinL hDl hCb (closed_some h5 hlen2 (near_of e2) hK).2.1) (fun i j v q => bd_joinL hDl q)
theorem sound_l0 (hl : l.length ≤ 100) (hm : m.length ≤ 100) (h : zErr N (rels l) = none) (hnear : Near 1048576 (rels l)) (hn : N + 1 = n) (hp : (p.length : Int) = N) (hs : hasAll n (rels l) (0 :: p) = true)
    (hx : 1 ≤ x ∧ x ≤ N) (hy : 0 ≤ y ∧ y ≤ N) (hc : -1048576 ≤ c ∧ c ≤ 1048576) : ∀ d i : Nat, i + d = p.length → (∀ j, j < i → -1048576 ≤ p.getD j 0 ∧ p.getD j 0 ≤ 1048576) → Ev (fun k => L2_ZoneSound.l0 k p x y c (i : Int) N l M m) true := by
  obtain ⟨n', hn', h1, h5, hlen, _, _⟩ := zErr_none h
  obtain rfl : n' = n := by omega
  intro d
  induction d with
  | succ d ih =>
    intro i hi hall
    refine Ev.step (fun k => by simp only [L2_ZoneSound.l0]; rfl) (.pos (by omega) (.pos (by omega) ?_))
    rw [far_n (by omega), up64 (by omega)]
    refine .bind .some (.ite (fun _ => .some) (fun hfar => ih (i + 1) (by omega) fun j hj => ?_))
    rcases Nat.lt_or_ge j i with h | h
    · exact hall j h
    · obtain rfl : j = i := by omega
      have hfar' : ¬ (rd p (j : Int) > 1048576 ∨ rd p (j : Int) < -1048576) := fun q => hfar (decide_eq_true q)
      have e : rd p (j : Int) = p.getD j 0 := rfl
      rw [e] at hfar'
      omega
  | zero =>
    intro i hi hall
    have hf : ∀ z ∈ p, -1048576 ≤ z ∧ z ≤ 1048576 := by
      intro z hz
      obtain ⟨j, hj, rfl⟩ := List.getElem_of_mem hz
      have := hall j (by omega)
      rwa [List.getD_eq_getElem?_getD, List.getElem?_eq_getElem hj, Option.getD_some] at this
    obtain ⟨X, rfl⟩ : ∃ X : Nat, x = X + 1 := ⟨(x - 1).toNat, by omega⟩
    obtain ⟨Y, rfl⟩ : ∃ Y : Nat, y = Y := ⟨y.toNat, by omega⟩
    have hX : X < p.length := by omega
    have hx1 : wrap64 ((X : Int) + 1 - 1) = X := by rw [w64 (by omega) (by omega)]; omega
    have hs0 := (hasAll_sat _ _ _).1 hs
    have hd := sat_diag hlen hs0
    obtain ⟨hC, hcl, hCb⟩ := closeZ_near h5 hlen (norm_of h) hnear (by decide) hd.fine
    rw [show (1048576 * 4096 : Nat) = 4294967296 by decide] at hCb
    have hCs : Sat (Bd n' (preFree n' (rels l))) (fun i => (0 :: p).getD i 0) := fun i j v q => hd.path _ _ _ ((free_path hlen hd.fine i j v).1 q)
    have hlC := hcl.len
    have hNC := hcl.norm
    have Z := ev_zoneOf (N := N) (l := l) (by omega)
    refine Ev.step (fun k => by simp only [L2_ZoneSound.l0]; rfl) (.neg (by omega) (.bind Z ?_))
    simp only [forget_val (x := (X : Int) + 1) h hn hx hC, show ((X : Int) + 1).toNat = X + 1 by omega]
    refine .bind .some (.pos rfl ?_)
    refine Ev.step (fun k => by simp only [L2_ZoneSound.j3, Bool.not_true, Bool.false_eq_true, if_false, hx1]; rfl) ?_
    rw [ints_val (by omega)]
    refine .bind .some (.pos (by omega) (.pos (by omega) ?_))
    simp only [Int.toNat_natCast]
    refine .bind .some ?_
    generalize preFree n' (rels l) = C at *
    have hxn : X + 1 < n' := by omega
    have hf1 : ∀ v : Int, -2097152 ≤ v → v ≤ 2097152 → ∀ z ∈ p.set X v, -1099511627776 ≤ z ∧ z ≤ 1099511627776 := by
      intro v v1 v2 z hz
      rcases mem_set hz with hz | rfl
      · have := hf z hz; omega
      · omega
    have v1 : zone_Has.f N (zces (forgetL n' (X + 1) C)) (p.set X c) = some (true, none) := by
      rw [has_val (zErr_ok hn h1 h5 (by rw [forgetL_length]; exact hlC) (norm_forget hlC hxn hNC) (near_mono (near_forget hlC hxn hCb) (by decide))) hn (by rw [List.length_set]; exact hp) (near_zfar (hf1 c (by omega) (by omega)))]
      rw [(hasAll_sat _ _ _).2]
      refine sat_forget hlC hxn hCs fun i hi => ?_
      cases i with
      | zero => rfl
      | succ i =>
        show (p.set X c).getD i 0 = p.getD i 0
        rw [getD_set hX, if_neg (by omega)]
    rw [v1]
    refine .bind .some (.pos rfl ?_)
    refine Ev.step (fun k => by simp only [L2_ZoneSound.j4, Bool.not_true, Bool.false_eq_true, if_false]; rfl) (.bind Z ?_)
    simp only [assign_val (x := (X : Int) + 1) (y := (Y : Int)) (c := c) h hn hx hy (by omega) hC, show ((X : Int) + 1).toNat = X + 1 by omega, Int.toNat_natCast]
    have hYn : Y < n' := by omega
    have hval : -1048576 ≤ (0 :: p).getD Y 0 ∧ (0 :: p).getD Y 0 ≤ 1048576 := by
      cases Y with
      | zero => exact ⟨show (-1048576 : Int) ≤ 0 by decide, show (0 : Int) ≤ 1048576 by decide⟩
      | succ Y => exact hall Y (by omega)
    have hSq : Sat (Bd n' (assignL n' (X + 1) Y c C)) (fun i => (0 :: p.set X ((0 :: p).getD Y 0 + c)).getD i 0) := by
      refine sat_assign (b := 4294967296) hlC hxn hYn hCb (by decide) (by omega) hCs (fun i hi => ?_) ?_
      · cases i with
        | zero => rfl
        | succ i =>
          show (p.set X _).getD i 0 = p.getD i 0
          rw [getD_set hX, if_neg (by omega)]
      · show (p.set X _).getD X 0 = _
        rw [getD_set hX, if_pos rfl]
    have hAN : Near 1099511627776 (assignL n' (X + 1) Y c C) := near_mono (near_assign (d := 1048576) hlC hxn hYn hCb (by decide) (by omega) (by omega)) (by decide)
    obtain ⟨G, hG, hGl, hGn, hGb, hGs⟩ := closeZ_sat h5 (by rw [assignL_length]; exact hlC) (norm_assign hlC hxn hYn hCb (by decide) (by omega) hNC) hAN hSq
    rw [shutZ_some hn hG]
    refine .bind .some (.pos rfl ?_)
    have v2 : zone_Has.f N (zces G) (p.set X ((0 :: p).getD Y 0 + c)) = some (true, none) := by
      rw [has_val (zErr_ok hn h1 h5 hGl hGn hGb) hn (by rw [List.length_set]; exact hp) (near_zfar (hf1 _ (by omega) (by omega))), (hasAll_sat _ _ _).2 hGs]
    have j6 : Ev (fun k => L2_ZoneSound.j6 k p (p.set X ((0 :: p).getD Y 0 + c)) N l M m N (zces G)) true := by
      refine Ev.step (fun k => by simp only [L2_ZoneSound.j6]; rfl) ?_
      rw [v2]
      exact .bind .some (.pos rfl (sound_j7 hl hm h hn hp hf hs))
    refine Ev.step (fun k => by simp only [L2_ZoneSound.j5, Bool.not_true, Bool.false_eq_true, if_false, hx1]; rfl) (.ite (fun hy0 => ?_) (fun hy0 => ?_))
    · obtain ⟨V, rfl⟩ : ∃ V : Nat, Y = V + 1 := ⟨Y - 1, by omega⟩
      rw [show wrap64 (((V + 1 : Nat) : Int) - 1) = (V : Int) by rw [w64 (by omega) (by omega)]; omega]
      refine .pos (by omega) (.pos (by omega) (.pos (by omega) (.pos (by rw [List.length_set]; omega) ?_)))
      have e : (p.set X c).set (X : Int).toNat (wrap64 (rd p (V : Int) + c)) = p.set X ((0 :: p).getD (V + 1) 0 + c) := by
        rw [Int.toNat_natCast, List.set_set]
        have e2 : rd p (V : Int) = (0 :: p).getD (V + 1) 0 := rfl
        rw [e2, w64 (by omega) (by omega)]
      rw [e]
      exact j6
    · obtain rfl : Y = 0 := by omega
      have e : (0 :: p).getD 0 0 + c = c := by show (0 : Int) + c = c; omega
      rw [e] at j6
      exact j6
end
theorem pure_ZoneSound (N : Int) (l : List RC) (M : Int) (m : List RC) (p : List Int) (x y c : Int) : Ev (fun k => L2_ZoneSound.f k N l M m p x y c) true := by
  have skip : Ev (fun k => L2_ZoneSound.j0 k p x y c true true N l M m) true := Ev.step (h := fun _ => some true) (fun k => by simp only [L2_ZoneSound.j0, if_true]) .some
  have skip1 : Ev (fun k => L2_ZoneSound.j1 k p x y c true N l M m) true := Ev.step (h := fun _ => some true) (fun k => by simp only [L2_ZoneSound.j1, if_true]) .some
  unfold L2_ZoneSound.f
  refine .bind ev_free (.pos rfl (.ite (fun _ => skip) (fun hl => .ite (fun _ => skip) (fun hm => .ite (fun _ => skip) (fun hp => ?_)))))
  rw [far_n (by omega)]
  refine .bind .some (.ite (fun _ => skip) (fun hc => ?_))
  have hc' : ¬ (c > 1048576 ∨ c < -1048576) := fun q => hc (decide_eq_true q)
  refine .bind (ev_near l) ?_
  cases hb : nearB (rels l) with
  | false => exact skip
  | true =>
    refine .pos rfl (.bind (ev_near m) ?_)
    cases hb2 : nearB (rels m) with
    | false => exact skip
    | true =>
      obtain ⟨hl1, hnear⟩ := nearB_near hb
      refine Ev.step (fun k => by simp only [L2_ZoneSound.j0, Bool.not_true, Bool.false_eq_true, if_false]; rfl) (.bind (ev_zoneOf (by omega)) ?_)
      rw [ints_val (by omega)]
      refine .bind .some ?_
      cases hE : zErr N (rels l) with
      | some e =>
        simp only [has_err hE]
        exact .bind .some (.neg (by simp) skip1)
      | none =>
        obtain ⟨n, hn, h1, h5, hlen, _, _⟩ := zErr_none hE
        by_cases hpn : (p.length : Int) = N
        · cases hfar : p.any zfar with
          | true =>
            have : zone_Has.f N (zces (rels l)) p = some (false, some 2) := by
              unfold zone_Has.f
              rw [cels_zces, hE]
              simp only
              rw [if_neg (by omega), if_pos hfar]
            simp only [this]
            exact .bind .some (.neg (by simp) skip1)
          | false =>
            simp only [has_val hE hn hpn hfar]
            refine .bind .some (.pos rfl (.ite (fun hh => ?_) (fun _ => skip1)))
            refine .ite (fun _ => skip1) (fun x1 => .ite (fun _ => skip1) (fun x2 => .ite (fun _ => skip1) (fun y1 => ?_)))
            by_cases y2 : y > N
            · rw [decide_eq_true y2]; exact skip1
            · rw [decide_eq_false y2]
              refine Ev.step (fun k => by simp only [L2_ZoneSound.j1, Bool.false_eq_true, if_false]; rfl) ?_
              exact sound_l0 (by omega) (by omega) hE hnear hn hpn hh ⟨by omega, by omega⟩ ⟨by omega, by omega⟩ (by omega) p.length 0 (by omega) (fun j hj => absurd hj (by omega))
        · have : zone_Has.f N (zces (rels l)) p = some (false, some 3) := by
            unfold zone_Has.f
            rw [cels_zces, hE]
            simp only
            rw [if_pos hpn]
          simp only [this]
          exact .bind .some (.neg (by simp) skip1)
end Go.Proofs.Rcp
