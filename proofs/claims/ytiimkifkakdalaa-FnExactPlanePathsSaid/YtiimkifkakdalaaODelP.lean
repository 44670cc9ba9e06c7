/- slices.IndexFunc and slices.DeleteFunc over a list of numbers: what a call of them computes, whatever closure it is handed. Conditions: what the closure answers. -/
import Derived.Test.YtiimkifkakdalaaWAll2
import Derived.Test.YtiimkifkakdalaaOIxP
import Derived.Lib.SliceRun
namespace Go.Proofs.Ytiimkifkakdalaa.P
open Go.RowKit Go.Proofs.YtiimkifkakdalaaW.PrintWords Go.Proofs.YtiimkifkakdalaaW.PrintLast Go.Proofs.YtiimkifkakdalaaW.PrintMore
set_option linter.unusedVariables false
set_option linter.unusedSimpArgs false

/-- What is asked of a closure: at each number of the list, in each world in which the blocks of W0 lie unturned. -/
def Asks (cap : Value) (p : Int → Bool) (xs : List Int) (W0 : World) : Prop :=
  ∀ (W : World) (x : Int), x ∈ xs → Below W0.heap.size W0 W → Calls Try.prog 45 #[.int .i64 x, cap] W fun e W' => e = .returned (.bool (p x)) ∧ Below W.heap.size W W'
set_option maxHeartbeats 8000000 in
set_option maxRecDepth 100000 in
theorem slices_IndexFunc.calls (cap : Value) (p : Int → Bool) (xs : List Int) (W0 : World) (hcl : Asks cap p xs W0) (w : World) (hb : Below W0.heap.size W0 w) (hlen : xs.length < 4611686018427387904) (A : Option Addr) (c : Nat) (hC : Kd.C (Kd.int .i64) w A xs.length xs) :
    Calls Try.prog 75 #[.slice A xs.length c, .func (.func 45) #[] #[cap]] w fun e w' => e = .returned (.int .i64 (dIx p xs 0)) ∧ Below w.heap.size w w' := by
  have HB := Aside0.mk (Below.refl w.heap.size w)
  have HW := Aside0.mk hb
  have HC := Aside0.mk hC
  have HF := Aside0.mk hcl
  clear hb hC hcl
  go_enter Try.func75, Try.ntmps75
  go_wp2
  go_loopg [5, 8] xs.length (fun gg _ v8 w' => ∃ i : Nat, v8 = .int .i64 i ∧ i ≤ xs.length ∧ xs.length - i ≤ gg ∧ Aside0 (dIx p (xs.drop i) i = dIx p xs 0) ∧ Aside0 (Below w.heap.size w w'))
  case atStart => exact ⟨0, rfl, Nat.zero_le _, by omega, ⟨rfl⟩, HB⟩
  case round =>
    obtain ⟨i, rfl, hi, hg, HI, HB0⟩ := hrel
    by_cases hlt : i < xs.length
    · have c4 : decide ((i : Int) < (xs.length : Int)) = true := decide_eq_true (by omega)
      have c5 : ((i : Int) < (xs.length : Int)) = True := eq_true (by omega)
      have c6 : (0 ≤ (i : Int)) = True := eq_true (by omega)
      obtain ⟨ad, he, hx⟩ := Kd.at_int (Kd.C_below HC.out HB0.out) (i : Int) (by omega) (by omega)
      cases he
      have hcall := HF.out _ (rd xs (i : Int)) (rd_mem xs i hlt) (below_step HW.out HB0.out)
      have HE := HI.out
      rw [dIx_drop p xs i hlt] at HE
      obtain ⟨z, hz⟩ : ∃ z : Int, (i : Int) = z := ⟨_, rfl⟩
      rw [hz] at c4 c5 c6 hx hcall HE ⊢
      have HZ := Aside0.mk (And.intro hz (And.intro hi (And.intro hg hlt)))
      clear hz hi hg hlt
      cases hq : p (rd xs z) with
      | true =>
        rw [hq] at hcall HE
        rw [if_pos rfl] at HE
        replace HE := Aside0.mk HE
        clear hq
        go_wp2_with (first | (go_at_call 45; refine hcall.mono ?_; rintro e w6 ⟨rfl, hb6⟩))
        go_ret
        exact ⟨by rw [HE.out]; rfl, below_step HB0.out hb6⟩
      | false =>
        rw [hq] at hcall HE
        rw [if_neg (by simp)] at HE
        replace HE := Aside0.mk HE
        clear hq
        go_wp2_with (first | (go_at_call 45; refine hcall.mono ?_; rintro e w6 ⟨rfl, hb6⟩))
        go_roundg (xs.length - (i + 1))
        case measure => have := HZ.out; omega
        case rel => exact ⟨i + 1, by have := HZ.out; rw [← this.1, w_succ i (by omega)], by have := HZ.out; omega, by have := HZ.out; omega, HE, ⟨below_step HB0.out hb6⟩⟩
    · have c4 : decide ((i : Int) < (xs.length : Int)) = false := decide_eq_false (by omega)
      obtain rfl : i = xs.length := by omega
      have HE := HI.out
      rw [List.drop_of_length_le (Nat.le_refl _)] at HE
      replace HE := Aside0.mk HE
      go_wp2
      go_ret
      exact ⟨by rw [← HE.out]; rfl, HB0.out⟩
theorem R_zeros {W : World} {g n cap base e : Nat} {ok : Nat → Prop} : ∀ (m o : Nat) (W : World) (L : List Int), o + m = L.length → base ≤ g → Kd.R (Kd.int .i64) e W base ok (.slice (some ⟨g, 0, none⟩) n cap) L → ∃ L2 : List Int, Kd.R (Kd.int .i64) e (W.setCells g o (List.replicate m (.int .i64 0))) base ok (.slice (some ⟨g, 0, none⟩) n cap) L2 ∧ L2.length = L.length ∧ L2.take o = L.take o ∧ ∀ w : World, Below base w W → Below base w (W.setCells g o (List.replicate m (.int .i64 0)))
  | 0, o, W, L, _, _, h => ⟨L, h, rfl, rfl, fun _ hb => hb⟩
  | m + 1, o, W, L, hl, hg, h => by
    have h1 := (Kd.R_putg h (o : Int) (0 : Int)).1
    rw [Int.toNat_natCast] at h1
    obtain ⟨L2, h2, h3, h4, h5⟩ := R_zeros (W := W) m (o + 1) _ _ (by rw [List.length_set]; omega) hg h1
    refine ⟨L2, h2, by rw [h3, List.length_set], ?_, fun w hb => h5 w (hb.setCell hg _)⟩
    have h6 := congrArg (List.take o) h4
    rw [List.take_take, List.take_take, Nat.min_eq_left (by omega), List.take_set_of_le (Nat.le_refl _)] at h6
    exact h6
theorem rd_drop (L xs : List Int) (j : Nat) (h : L.drop j = xs.drop j) : rd L (j : Int) = rd xs (j : Int) := by
  have : (L.drop j)[0]? = (xs.drop j)[0]? := by rw [h]
  simp only [List.getElem?_drop, Nat.add_zero] at this
  simp [rd, List.getD_eq_getElem?_getD, this]
theorem take_filter (p : Int → Bool) (xs : List Int) (j : Nat) (h : j < xs.length) : (xs.take (j + 1)).filter (fun x => !p x) = (xs.take j).filter (fun x => !p x) ++ (if p (rd xs (j : Int)) = true then [] else [rd xs (j : Int)]) := by
  have e : rd xs (j : Int) = xs[j] := by simp [rd, List.getD_eq_getElem?_getD, h]
  rw [List.take_succ_eq_append_getElem h, List.filter_append, e]
  cases hp : p xs[j] <;> simp [hp]
set_option maxHeartbeats 8000000 in
set_option maxRecDepth 100000 in
theorem slices_DeleteFunc.calls (cap : Value) (p : Int → Bool) (xs : List Int) (W0 : World) (hcl : Asks cap p xs W0) (w : World) (hb : Below W0.heap.size W0 w) (hlen : xs.length < 4611686018427387904) (v : Value) (hR : Kd.R (Kd.int .i64) 3 w W0.heap.size (fun _ => True) v xs) :
    Calls Try.prog 44 #[v, .func (.func 45) #[] #[cap]] w fun e w' => ∃ v', e = .returned v' ∧ Kd.R (Kd.int .i64) 3 w' W0.heap.size (fun _ => True) v' (xs.filter (fun x => !p x)) ∧ Below W0.heap.size W0 w' := by
  have hu := Try.underlying25
  have HW := Aside0.mk hb
  have HF := Aside0.mk hcl
  have HR := Aside0.mk hR
  have HLEN := Aside0.mk hlen
  clear hb hcl hR hlen
  rcases dIx_cases p xs 0 with ⟨e1, e2⟩ | ⟨k, hk, e1, e2, e3⟩
  · obtain ⟨A, c, rfl⟩ := Kd.R_slice HR.out
    have HE := Aside0.mk (And.intro e1 e2)
    clear e1 e2
    go_enter Try.func44, Try.ntmps44
    go_wp2_with (first | (go_at_call 75; refine (slices_IndexFunc.calls cap p xs W0 HF.out w HW.out HLEN.out A c (Kd.R_reads' HR.out).2.2).mono ?_; rintro e w6 ⟨rfl, hb6⟩; rw [HE.out.1]))
    go_ret
    exact ⟨_, rfl, by rw [HE.out.2]; exact Kd.R_below HR.out hb6, below_then HW.out HW.out.size hb6⟩
  · obtain ⟨g, c, rfl, hg, _, _⟩ := Kd.R_form HR.out (by omega)
    rw [Nat.zero_add] at e1
    have hne : ((k : Int) == -1) = false := beq_eq_false_iff_ne.2 (by omega)
    have HG := Aside0.mk hg
    have HE := Aside0.mk (And.intro hk (And.intro e1 (And.intro e2 e3)))
    clear e1 e2 e3 hg hk
    obtain ⟨z, hz⟩ : ∃ z : Int, (k : Int) = z := ⟨_, rfl⟩
    rw [hz] at hne
    have HZ := Aside0.mk hz
    clear hz
    go_enter Try.func44, Try.ntmps44
    go_wp2_with (first | (go_at_call 75; refine (slices_IndexFunc.calls cap p xs W0 HF.out w HW.out HLEN.out (some ⟨g, 0, none⟩) c (Kd.R_reads' HR.out).2.2).mono ?_; rintro e w6 ⟨rfl, hb6⟩; rw [HE.out.2.1, HZ.out]))
    go_loopg [5, 6, 7] xs.length (fun gg v5 v6 _ w' => ∃ (i j : Nat) (L : List Int), v5 = .int .i64 i ∧ v6 = .int .i64 j ∧ i < j ∧ j ≤ xs.length ∧ xs.length - j ≤ gg ∧ Aside0 (L.length = xs.length ∧ L.take i = (xs.take j).filter (fun x => !p x) ∧ L.drop j = xs.drop j) ∧ Aside0 (Kd.R (Kd.int .i64) 3 w' W0.heap.size (fun _ => True) (.slice (some ⟨g, 0, none⟩) xs.length c) L) ∧ Aside0 (Below W0.heap.size W0 w'))
    case atStart =>
      have hk := HE.out.1
      exact ⟨k, k + 1, xs, by rw [HZ.out], by rw [← HZ.out, w_succ k (by have := HLEN.out; omega)], by omega, by omega, by omega, ⟨rfl, by rw [take_filter p xs k hk, if_pos HE.out.2.2.2, List.append_nil, HE.out.2.2.1], rfl⟩, ⟨Kd.R_below HR.out hb6⟩, ⟨below_then HW.out HW.out.size hb6⟩⟩
    case round =>
      clear HE HZ HR HW
      obtain ⟨i, j, L, rfl, rfl, hij, hj, hg, HI, HQ, HB0⟩ := hrel
      by_cases hlt : j < xs.length
      · have c4 : decide ((j : Int) < (xs.length : Int)) = true := decide_eq_true (by omega)
        have c5 : ((j : Int) < (xs.length : Int)) = True := eq_true (by omega)
        have c6 : (0 ≤ (j : Int)) = True := eq_true (by omega)
        have c7 : ((i : Int) < (xs.length : Int)) = True := eq_true (by omega)
        have c8 : (0 ≤ (i : Int)) = True := eq_true (by omega)
        have cj : wr.cell? ⟨g, (j : Int).toNat, none⟩ = some (.int .i64 (rd xs (j : Int))) := (Kd.R_celln 0 HQ.out (j : Int) (by omega) (by omega)).1.trans (congrArg (fun t => some (Value.int .i64 t)) (rd_drop L xs j HI.out.2.2))
        have hcall := HF.out wr (rd xs (j : Int)) (rd_mem xs j hlt) HB0.out
        obtain ⟨y, hy⟩ : ∃ y : Int, (i : Int) = y := ⟨_, rfl⟩
        obtain ⟨z, hz⟩ : ∃ z : Int, (j : Int) = z := ⟨_, rfl⟩
        rw [hy] at c7 c8 ⊢
        rw [hz] at c4 c5 c6 cj hcall ⊢
        have HZ := Aside0.mk (And.intro hy (And.intro hz (And.intro hij (And.intro hj (And.intro hg hlt)))))
        clear hy hz hij hj hg hlt
        cases hq : p (rd xs z) with
        | true =>
          rw [hq] at hcall
          have HP := Aside0.mk hq
          clear hq
          go_wp2_with (first | (go_at_call 45; refine hcall.mono ?_; rintro e w6 ⟨rfl, hb6⟩))
          go_roundg (xs.length - (j + 1))
          case measure => have := HZ.out; omega
          case rel =>
            have hZ := HZ.out
            refine ⟨i, j + 1, L, by rw [hZ.1], by rw [← hZ.2.1, w_succ j (by have := HLEN.out; omega)], by omega, by omega, by omega, ⟨HI.out.1, ?_, ?_⟩, ⟨Kd.R_below HQ.out hb6⟩, ⟨below_then HB0.out HB0.out.size hb6⟩⟩
            · rw [take_filter p xs j hZ.2.2.2.2.2, hZ.2.1, if_pos HP.out, List.append_nil]; exact HI.out.2.1
            · have := congrArg (List.drop 1) HI.out.2.2
              rwa [List.drop_drop, List.drop_drop] at this
        | false =>
          rw [hq] at hcall
          have HP := Aside0.mk hq
          clear hq
          go_wp2_with (first | (go_at_call 45; refine hcall.mono ?_; rintro e w6 ⟨rfl, hb6⟩; have HQ6 := Aside0.mk (Kd.R_below HQ.out hb6); have HB6 := Aside0.mk (below_then HB0.out HB0.out.size hb6); clear hb6; obtain ⟨ci, fi⟩ := Kd.R_celln 0 HQ6.out y (of_eq_true c8) (of_eq_true c7); have HP7 := Kd.R_putg HQ6.out y (rd xs z)) | ((with_reducible refine gate_store (t := 3) (p := 33) rfl ?_); refine store_event (t := 3) (p := 33) (v := ?vo_w8) (w1 := (w6.setCell ⟨g, y.toNat, none⟩ (.int .i64 (rd xs z)))) ?hg ?ho ?hn ?hr ?_; (case ho => rfl); (case hg => rfl); (case hn => rfl); (case hr => first | (go_simp; done) | (go_simp; rfl)); intro w8 hw; have HQ8 := Aside0.mk (show Kd.R (Kd.int .i64) 3 w8 W0.heap.size (fun _ => True) (.slice (some ⟨g, 0, none⟩) xs.length c) (L.set y.toNat (rd xs z)) by rw [hw]; exact HP7.1); have HB8 := Aside0.mk (show Below W0.heap.size W0 w8 by rw [hw]; exact HB6.out.setCell HG.out _); clear HP7 hw ci fi))
          go_roundg (xs.length - (j + 1))
          case measure => have := HZ.out; omega
          case rel =>
            have hZ := HZ.out
            have hi := HI.out
            refine ⟨i + 1, j + 1, L.set y.toNat (rd xs z), by rw [← hZ.1, w_succ i (by have := HLEN.out; omega)], by rw [← hZ.2.1, w_succ j (by have := HLEN.out; omega)], by omega, by omega, by omega, ⟨by rw [List.length_set]; exact hi.1, ?_, ?_⟩, HQ8, HB8⟩
            · have hil : i < L.length := by omega
              rw [take_filter p xs j hZ.2.2.2.2.2, hZ.2.1, HP.out, ← hi.2.1, ← hZ.1, Int.toNat_natCast, List.take_succ_eq_append_getElem (by rw [List.length_set]; exact hil), List.take_set_of_le (Nat.le_refl _), List.getElem_set_self]
              simp
            · have := congrArg (List.drop 1) hi.2.2
              rw [List.drop_drop, List.drop_drop] at this
              rw [← hZ.1, Int.toNat_natCast, List.drop_set_of_lt (by omega)]
              exact this
      · have c4 : decide ((j : Int) < (xs.length : Int)) = false := decide_eq_false (by omega)
        obtain rfl : j = xs.length := by omega
        have hL := HI.out.1
        obtain ⟨L2, h1, h2, h3, h4⟩ := R_zeros (W := wr) (xs.length - i) i wr L (by omega) HG.out HQ.out
        have hcl : ∀ ty, (Builtin.clear_ #[25] ty #[.slice (some ⟨g, i, none⟩) (xs.length - i) (c - i)]).run Try.prog wr = .ok (.tuple #[]) (wr.setCells g i (List.replicate (xs.length - i) (.int .i64 0))) :=
          fun ty => Lib.run_clear_slice wr _ _ ty _ hu (fun _ => rfl) rfl rfl g i _ _ (by omega) (fun t ht => by have := (Kd.R_celln 0 HQ.out ((i + t : Nat) : Int) (by omega) (by omega)).1; rw [Int.toNat_natCast] at this; rw [this]; rfl) (fun t ht => by have := (Kd.R_celln 0 HQ.out ((i + t : Nat) : Int) (by omega) (by omega)).2; rw [Int.toNat_natCast] at this; exact this)
        have c9 : ((i : Int) ≤ (xs.length : Int)) = True := eq_true (by omega)
        have c8 : (0 ≤ (i : Int)) = True := eq_true (by omega)
        have hc := (Kd.R_reads' HQ.out).2.1
        have HX := Aside0.mk (And.intro h1 (And.intro h2 (And.intro h3 (And.intro h4 hL))))
        clear h1 h2 h3 h4 hL
        go_wp2
        go_ret
        obtain ⟨h1, h2, h3, h4, hL⟩ := HX.out
        have hT := Kd.R_take (m := i) h1 (by omega)
        rw [h3, HI.out.2.1, List.take_of_length_le (Nat.le_refl _)] at hT
        exact ⟨_, rfl, hT, h4 _ HB0.out⟩

end Go.Proofs.Ytiimkifkakdalaa.P
