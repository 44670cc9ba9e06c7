/- impl.ParseWiring: what a call of it computes. Conditions: the library's two errors and its table of powers read as its text lays them; the text is at most 2^20 long. -/
import Derived.Test.YtmidcafamppkeaaDoorOWhole
import Derived.Test.YtmidcafamppkeaaDoorWAll2
import Derived.Test.YtmidcafamppkeaaDoorP51
import Derived.Test.YtmidcafamppkeaaDoorP4
namespace Go.Proofs.YtmidcafamppkeaaDoor.P
open Go.RowKit Go.Proofs.YtmidcafamppkeaaDoorW.PrintWords Go.Proofs.YtmidcafamppkeaaDoorW.PrintLast Go.Proofs.YtmidcafamppkeaaDoorW.PrintMore
set_option linter.unusedVariables false
set_option linter.unusedSimpArgs false

def impl_ParseWiring.l0 : Nat → ByteArray → List Int → Int → Option (List Int)
  | 0, _, _, _ => none
  | k + 1, p, l, i => if i < (p.size : Int) then (if 0 ≤ i ∧ l.length < 1000 then impl_ParseWiring.l0 k p (l ++ [wrap64 (bt p i - 48)]) (wrap64 (i + 1)) else none) else some l
def impl_ParseWiring.f (k : Nat) (s : ByteArray) : Option (Int × List Int × Bool) := (impl_SplitByte.f k s 58).bind fun ps => if 0 < ps.length ∧ (rdOf ByteArray.empty ps 0).size ≤ 1048576 then (if (wholeOf (rdOf ByteArray.empty ps 0) 0 999999).2 = true then (if (ps.length : Int) = 2 then (if ((rdOf ByteArray.empty ps 1).size : Int) > 36 then some (0, [], false) else ((impl_ParseWiring.l0 k (rdOf ByteArray.empty ps 1) [] 0).bind fun l => (impl_IsWiring.f k (wholeOf (rdOf ByteArray.empty ps 0) 0 999999).1 l).bind fun b => if b = true then some ((wholeOf (rdOf ByteArray.empty ps 0) 0 999999).1, l, true) else some (0, [], false))) else some (0, [], false)) else some (0, [], false)) else none
theorem impl_ParseWiring.mono_l : ∀ k, (∀ y0 y1 y2, LeO (impl_ParseWiring.l0 k y0 y1 y2) (impl_ParseWiring.l0 (k + 1) y0 y1 y2))
  | 0 => fun _ _ _ r h => by simp [impl_ParseWiring.l0] at h
  | k + 1 => by
    have ih0 := impl_ParseWiring.mono_l k
    intro y0 y1 y2
    unfold impl_ParseWiring.l0
    repeat' first
      | (with_reducible exact ih0 _ _ _)
      | (with_reducible exact LeO.refl _)
      | (with_reducible refine LeO.ite ?_ ?_)
theorem impl_ParseWiring.mono : ∀ a0 k, LeO (impl_ParseWiring.f k a0) (impl_ParseWiring.f (k + 1) a0) := by
  intro a0 k
  unfold impl_ParseWiring.f
  refine LeO.bind (impl_SplitByte.mono _ _ _) (fun ps => LeO.ite (LeO.ite (LeO.ite (LeO.ite (LeO.refl _) ?_) (LeO.refl _)) (LeO.refl _)) (LeO.refl _))
  exact LeO.bind (impl_ParseWiring.mono_l k _ _ _) (fun _ => LeO.bind (impl_IsWiring.mono _ _ _) (fun _ => LeO.refl _))
set_option maxHeartbeats 8000000 in
set_option maxRecDepth 100000 in
theorem impl_ParseWiring.calls (k : Nat) (s : ByteArray) (r1 : Int) (r2 : List Int) (r3 : Bool) (w : World) (hv : VarsOk w) (h : impl_ParseWiring.f k s = some (r1, r2, r3)) :
    Calls Tryd.prog 12 #[.string s] w fun e w' => ∃ v : Value, e = .returned (.tuple #[.int .i64 r1, v, .bool r3]) ∧ Kd.R (Kd.int .i64) 3 w' w.heap.size (fun _ => True) v r2 ∧ Below w.heap.size w w' := by
  have HV := Aside0.mk hv
  unfold impl_ParseWiring.f at h
  obtain ⟨ps, A2, H⟩ := Option.bind_eq_some_iff.mp h
  replace A2 := Aside0.mk A2
  clear h hv
  obtain ⟨s0, hs0⟩ : ∃ x, rdOf ByteArray.empty ps 0 = x := ⟨_, rfl⟩
  obtain ⟨s1, hs1⟩ : ∃ x, rdOf ByteArray.empty ps 1 = x := ⟨_, rfl⟩
  obtain ⟨⟨q1, q2⟩, hq⟩ : ∃ q, wholeOf s0 0 999999 = q := ⟨_, rfl⟩
  rw [hs0, hs1, hq] at H
  simp only at H
  have HS0 := Aside0.mk hs0
  have HS1 := Aside0.mk hs1
  have HQ := Aside0.mk hq
  clear hs0 hs1 hq
  by_cases c1 : 0 < ps.length ∧ s0.size ≤ 1048576
  case neg => rw [if_neg c1] at H; exact absurd H (by simp)
  rw [if_pos c1] at H
  have HP := Aside0.mk c1.1
  have HZ := Aside0.mk c1.2
  have p0 : ((0 : Int) < (ps.length : Int)) = True := eq_true (Int.ofNat_lt.mpr c1.1)
  have p0n : (0 < ps.length) = True := eq_true c1.1
  clear c1
  cases q2 with
  | false =>
    rw [if_neg (by simp)] at H
    simp only [Option.some.injEq, Prod.mk.injEq] at H
    obtain ⟨rfl, rfl, rfl⟩ := H
    go_enter Tryd.func12, Tryd.ntmps12
    go_wp2_with (first | (go_at_call 44; (with_reducible refine (impl_SplitByte.calls k s 58 ps _ A2.out).mono ?_); rintro e w4 ⟨v4, rfl, ho, hb⟩; have HO := Aside0.mk ho; have HB := Aside0.mk hb; clear ho hb; obtain ⟨g, co, eo, _, _, _⟩ := Kd.R_form HO.out HP.out; subst eo; obtain ⟨hx0, _⟩ := Kd.R_celln ByteArray.empty HO.out 0 (Int.le_refl 0) (Int.ofNat_lt.mpr HP.out); rw [HS0.out] at hx0; replace hx0 : w4.cell? ⟨g, 0, none⟩ = some (.string s0) := hx0) | (go_at_call 45; refine (impl_ParseNumber.calls s0 _ HZ.out (HV.out.below HB.out)).mono ?_; rw [HQ.out]; rintro e w5 ⟨rfl, hb⟩; have n0_ := Aside0.mk (Kd.R_below HO.out hb); have n1_ := Aside0.mk (below_step HB.out hb); clear HO HB hb hx0; have HO := n0_; have HB := n1_; clear n0_ n1_))
    go_ret3
    exact ⟨_, rfl, Kd.R_nil _ _ _ _ _, HB.out⟩
  | true =>
    rw [if_pos rfl] at H
    by_cases c2 : (ps.length : Int) = 2
    case neg =>
      rw [if_neg c2] at H
      simp only [Option.some.injEq, Prod.mk.injEq] at H
      obtain ⟨rfl, rfl, rfl⟩ := H
      have c2b : ((ps.length : Int) != 2) = true := bne_iff_ne.mpr c2
      clear c2
      go_enter Tryd.func12, Tryd.ntmps12
      go_wp2_with (first | (go_at_call 44; (with_reducible refine (impl_SplitByte.calls k s 58 ps _ A2.out).mono ?_); rintro e w4 ⟨v4, rfl, ho, hb⟩; have HO := Aside0.mk ho; have HB := Aside0.mk hb; clear ho hb; obtain ⟨g, co, eo, _, _, _⟩ := Kd.R_form HO.out HP.out; subst eo; obtain ⟨hx0, _⟩ := Kd.R_celln ByteArray.empty HO.out 0 (Int.le_refl 0) (Int.ofNat_lt.mpr HP.out); rw [HS0.out] at hx0; replace hx0 : w4.cell? ⟨g, 0, none⟩ = some (.string s0) := hx0) | (go_at_call 45; refine (impl_ParseNumber.calls s0 _ HZ.out (HV.out.below HB.out)).mono ?_; rw [HQ.out]; rintro e w5 ⟨rfl, hb⟩; have n0_ := Aside0.mk (Kd.R_below HO.out hb); have n1_ := Aside0.mk (below_step HB.out hb); clear HO HB hb hx0; have HO := n0_; have HB := n1_; clear n0_ n1_))
      go_ret3
      exact ⟨_, rfl, Kd.R_nil _ _ _ _ _, HB.out⟩
    case pos =>
      rw [if_pos c2] at H
      have c2b : ((ps.length : Int) != 2) = false := bne_eq_false_iff_eq.mpr c2
      have H12 := Aside0.mk (show (1 : Int) < (ps.length : Int) by omega)
      have p1 : ((1 : Int) < (ps.length : Int)) = True := eq_true (by omega)
      have p1n : (1 < ps.length) = True := eq_true (by omega)
      clear c2
      by_cases c3 : (s1.size : Int) > 36
      · rw [if_pos c3] at H
        simp only [Option.some.injEq, Prod.mk.injEq] at H
        obtain ⟨rfl, rfl, rfl⟩ := H
        have c3b : decide ((36 : Int) < (s1.size : Int)) = true := decide_eq_true c3
        clear c3
        go_enter Tryd.func12, Tryd.ntmps12
        go_wp2_with (first | (go_at_call 44; (with_reducible refine (impl_SplitByte.calls k s 58 ps _ A2.out).mono ?_); rintro e w4 ⟨v4, rfl, ho, hb⟩; have HO := Aside0.mk ho; have HB := Aside0.mk hb; clear ho hb; obtain ⟨g, co, eo, _, _, _⟩ := Kd.R_form HO.out HP.out; subst eo; obtain ⟨hx0, _⟩ := Kd.R_celln ByteArray.empty HO.out 0 (Int.le_refl 0) (Int.ofNat_lt.mpr HP.out); rw [HS0.out] at hx0; replace hx0 : w4.cell? ⟨g, 0, none⟩ = some (.string s0) := hx0) | (go_at_call 45; refine (impl_ParseNumber.calls s0 _ HZ.out (HV.out.below HB.out)).mono ?_; rw [HQ.out]; rintro e w5 ⟨rfl, hb⟩; have n0_ := Aside0.mk (Kd.R_below HO.out hb); have n1_ := Aside0.mk (below_step HB.out hb); clear HO HB hb hx0; have HO := n0_; have HB := n1_; clear n0_ n1_; obtain ⟨hx1, _⟩ := Kd.R_celln ByteArray.empty HO.out 1 (by decide) H12.out; rw [HS1.out] at hx1; replace hx1 : w5.cell? ⟨g, 1, none⟩ = some (.string s1) := hx1))
        go_ret3
        exact ⟨_, rfl, Kd.R_nil _ _ _ _ _, HB.out⟩
      · rw [if_neg c3] at H
        have c3b : decide ((36 : Int) < (s1.size : Int)) = false := decide_eq_false c3
        obtain ⟨l, A4, H⟩ := Option.bind_eq_some_iff.mp H
        obtain ⟨b, A5, H⟩ := Option.bind_eq_some_iff.mp H
        have H' := Aside0.mk A4
        replace A5 := Aside0.mk A5
        have HF := Aside0.mk H
        clear c3 A4 H
        go_enter Tryd.func12, Tryd.ntmps12
        go_wp2_with (first | (go_at_call 44; (with_reducible refine (impl_SplitByte.calls k s 58 ps _ A2.out).mono ?_); rintro e w4 ⟨v4, rfl, ho, hb⟩; have HO := Aside0.mk ho; have HB := Aside0.mk hb; clear ho hb; obtain ⟨g, co, eo, _, _, _⟩ := Kd.R_form HO.out HP.out; subst eo; obtain ⟨hx0, _⟩ := Kd.R_celln ByteArray.empty HO.out 0 (Int.le_refl 0) (Int.ofNat_lt.mpr HP.out); rw [HS0.out] at hx0; replace hx0 : w4.cell? ⟨g, 0, none⟩ = some (.string s0) := hx0) | (go_at_call 45; refine (impl_ParseNumber.calls s0 _ HZ.out (HV.out.below HB.out)).mono ?_; rw [HQ.out]; rintro e w5 ⟨rfl, hb⟩; have n0_ := Aside0.mk (Kd.R_below HO.out hb); have n1_ := Aside0.mk (below_step HB.out hb); clear HO HB hb hx0; have HO := n0_; have HB := n1_; clear n0_ n1_; obtain ⟨hx1, _⟩ := Kd.R_celln ByteArray.empty HO.out 1 (by decide) H12.out; rw [HS1.out] at hx1; replace hx1 : w5.cell? ⟨g, 1, none⟩ = some (.string s1) := hx1))
        go_loopg [8, 9] k (fun kq v8 v9 w' => ∃ (o : List Int) (i : Int), v9 = .int .i64 i ∧ Aside0 (impl_ParseWiring.l0 kq s1 o i = some l) ∧ Aside0 (kq ≤ k) ∧ Aside0 (Kd.R (Kd.int .i64) 3 w' w5.heap.size (fun _ => True) v8 o) ∧ Aside0 (Below w5.heap.size w5 w'))
        case atStart => exact ⟨[], 0, rfl, H', ⟨Nat.le_refl _⟩, ⟨Kd.R_nil _ _ _ _ _⟩, ⟨Below.refl _ _⟩⟩
        case round =>
          clear H' hx1
          obtain ⟨o, i, rfl, HA, HK1, HLo, HBw⟩ := hrel
          obtain ⟨hx1, _⟩ := Kd.R_celln ByteArray.empty (Kd.R_below HO.out HBw.out) 1 (by decide) H12.out
          rw [HS1.out] at hx1
          replace hx1 : wr.cell? ⟨g, 1, none⟩ = some (.string s1) := hx1
          cases gk with
          | zero => exact absurd HA.out (by simp [impl_ParseWiring.l0])
          | succ k1 =>
            have H := HA.out
            clear HA
            simp only [impl_ParseWiring.l0] at H
            by_cases c4 : i < (s1.size : Int)
            case neg =>
              rw [if_neg c4] at H
              obtain rfl := Option.some.inj H
              have c4b : decide (i < (s1.size : Int)) = false := decide_eq_false c4
              clear H c4
              have HL := Aside0.mk HLo.out
              obtain ⟨A8, c8, e8⟩ := Kd.R_slice HL.out
              subst e8
              have n1_ := Aside0.mk (below_then HB.out (below_size HB.out) HBw.out)
              have LO := Aside0.mk (below_size HB.out)
              clear HB
              have HB := n1_
              clear n1_
              cases b with
              | false =>
                have H3 := HF.out
                rw [if_neg (by simp)] at H3
                simp only [Option.some.injEq, Prod.mk.injEq] at H3
                obtain ⟨rfl, rfl, rfl⟩ := H3
                clear HF
                go_wp2_with (first | (go_at_call 6; (with_reducible refine (impl_IsWiring.calls k q1 A8 c8 _ _ _ (Kd.R_reads' HL.out).2.2 (Kd.R_reads' HL.out).2.1 A5.out).mono ?_); rintro e w9 ⟨rfl, hb⟩; have HL9 := Aside0.mk (Kd.R_below HL.out hb); have HB9 := Aside0.mk (below_step HB.out hb); clear hb))
                go_ret3
                exact ⟨_, rfl, Kd.R_nil _ _ _ _ _, HB9.out⟩
              | true =>
                have H3 := HF.out
                rw [if_pos rfl] at H3
                simp only [Option.some.injEq, Prod.mk.injEq] at H3
                obtain ⟨rfl, rfl, rfl⟩ := H3
                clear HF
                go_wp2_with (first | (go_at_call 6; (with_reducible refine (impl_IsWiring.calls k q1 A8 c8 _ _ _ (Kd.R_reads' HL.out).2.2 (Kd.R_reads' HL.out).2.1 A5.out).mono ?_); rintro e w9 ⟨rfl, hb⟩; have HL9 := Aside0.mk (Kd.R_below HL.out hb); have HB9 := Aside0.mk (below_step HB.out hb); clear hb))
                go_ret3
                exact ⟨_, rfl, Kd.R_lower HL9.out LO.out, HB9.out⟩
            case pos =>
              rw [if_pos c4] at H
              have c4b : decide (i < (s1.size : Int)) = true := decide_eq_true c4
              by_cases c5 : 0 ≤ i ∧ o.length < 1000
              case neg => rw [if_neg c5] at H; exact absurd H (by simp)
              rw [if_pos c5] at H
              obtain ⟨z, hz⟩ : ∃ z, wrap64 (bt s1 i - 48) = z := ⟨_, rfl⟩
              rw [hz] at H
              have hzw : IntKind.i64.wrap (bt s1 i - 48) = z := (i64_w _).trans hz
              have H' := Aside0.mk H
              have HOL := Aside0.mk c5.2
              have c5b := eq_true c5.1
              have c5c : decide (0 ≤ i) = true := decide_eq_true c5.1
              have c4c : (i < (s1.size : Int)) = True := eq_true c4
              have hbr := bt_range s1 i
              have hcv : IntKind.i64.wrap (bt s1 i) = bt s1 i := by rw [i64_w]; unfold wrap64; omega
              have hcv2 : wrap64 (bt s1 i) = bt s1 i := by unfold wrap64; omega
              have hbt := bt_at s1 i
              clear H c4 c5 hbr
              go_wp2_with (first | ((with_reducible refine gate_builtin (b := .append) (xs := #[.tmp 41, .tmp 49]) rfl ?_); at_builtin; refine Kd.R_append (Kd.int .i64) (w0 := w5) w5.heap.size rfl (.tmp 41) (.tmp 49) 24 3 (.int .i64 0) 8 rfl Tryd.underlying24 info3 rfl (by decide) (by omega) u8 o z [.int .i64 z] (fun _ => True) (fun _ => False) rfl rfl ?aP (fun _ hk => hk.elim) ?aF ?aO ?aB ?aS ?aL ?_; (case aP => exact rfl); (case aB => exact HBw.out); (case aF => exact (fun _ _ => trivial)); (case aO => exact HLo.out); (case aS => exact below_size HBw.out); (case aL => have := HOL.out; omega); intro v50 w50 ho hb hg_ hat_; clear hg_ hat_; have HL2 := Aside0.mk ho; have HB2 := Aside0.mk hb; clear ho hb))
              go_roundg k1
              case measure => have := HK1.out; omega
              case rel => exact ⟨o ++ [z], _, by first | rfl | (simp; done), H', ⟨by have := HK1.out; omega⟩, HL2, HB2⟩

end Go.Proofs.YtmidcafamppkeaaDoor.P
