/- impl.whole and impl.ParseNumber, by the shelf's contracts of strconv.Atoi and strconv.Itoa: what a call of them computes. Conditions: the library's two errors and its table of powers read as its text lays them; the string is at most 2^20 long. -/
import Derived.Test.YtmidcafamppkeaaDoorP0
import Derived.Ground.NamesProg
import Derived.Shelf.Lay
import Derived.Shelf.Strconv.ErrVarAll
import Derived.Shelf.Strconv.Itoa3
import Derived.Lib.ItoaNum
import Derived.WalkSmall
import Derived.Lib.AtoiErrMem
import Derived.Lib.AppendIntMem
namespace Go.Proofs
open Go.Shelf
shelf_lay LaysC.n172 Nm 172 at Tryd as Tryd.laysC172
shelf_lay LaysM.n171 Nm 171 at Tryd as Tryd.laysM171
end Go.Proofs
namespace Go.Proofs.YtmidcafamppkeaaDoor.P
open Go.RowKit Go.Proofs.YtmidcafamppkeaaDoorW.PrintWords Go.Proofs.YtmidcafamppkeaaDoorW.PrintLast Go.Proofs.YtmidcafamppkeaaDoorW.PrintMore
set_option linter.unusedVariables false
set_option linter.unusedSimpArgs false

/-- The library's variables that are read. -/
def VarsOk (w : World) : Prop := (∃ tp p, w.var? Tryd.prog "strconv.ErrSyntax" = some #[.iface tp p]) ∧ (∃ tp p, w.var? Tryd.prog "strconv.ErrRange" = some #[.iface tp p]) ∧ Lib.TabIs Tryd.prog w "internal/strconv.uint64pow10" .u64 Lib.pow10Tab
theorem var_lt {P : Program} {w : World} {n : String} {cs : Array Value} (h : w.var? P n = some cs) : ∃ g, P.globalNamed n = some g ∧ g < w.heap.size := by
  unfold World.var? at h
  cases hg : P.globalNamed n with
  | none => rw [hg] at h; cases h
  | some g =>
    refine ⟨g, rfl, ?_⟩
    rw [hg] at h
    simp only [Option.bind_some] at h
    cases hq : w.heap[g]? with
    | none => rw [hq] at h; cases h
    | some o => exact (Array.getElem?_eq_some_iff.mp hq).1
theorem var_step {P : Program} {w w' : World} {n : String} {cs : Array Value} (hb : Below w.heap.size w w') (h : w.var? P n = some cs) : w'.var? P n = some cs := by
  obtain ⟨g, hg, hlt⟩ := var_lt h
  exact var?_below hb hg hlt h
theorem VarsOk.below {w w' : World} (h : VarsOk w) (hb : Below w.heap.size w w') : VarsOk w' := by
  obtain ⟨⟨t1, p1, h1⟩, ⟨t2, p2, h2⟩, h3⟩ := h
  exact ⟨⟨t1, p1, var_step hb h1⟩, ⟨t2, p2, var_step hb h2⟩, var_step hb h3⟩
def wholeOf (s : ByteArray) (lo hi : Int) : Int × Bool :=
  match Lib.atoiAll s.data.toList with
  | .ok v => if v < lo then (0, false) else if v > hi then (0, false) else if ((⟨(Lib.itoa v).toArray⟩ : ByteArray).toList == s.toList) = true then (v, true) else (0, false)
  | _ => (0, false)
theorem atoi_ok (s : ByteArray) (hs : s.size ≤ 1048576) (v : Int) (h : Lib.atoiAll s.data.toList = .ok v) (w : World) : Calls Tryd.prog 58 #[.string s] w fun e w' => e = .returned (.tuple #[.int .i64 v, .nilIface]) ∧ Below w.heap.size w w' :=
  (Any.strconv_Atoi_ok Tryd.laysC172 s (by omega) v h w).mono fun e w' ⟨he, hw⟩ => ⟨he, by
    rcases hw with rfl | ⟨t, rfl⟩
    · exact Below.refl _ _
    · exact Lib.bytesWorld_below _ _ _⟩
theorem atoi_no (s : ByteArray) (hs : s.size ≤ 1048576) (h : Lib.atoiAll s.data.toList = .«syntax» ∨ Lib.atoiAll s.data.toList = .range) (w : World) (hv : VarsOk w) : Calls Tryd.prog 58 #[.string s] w fun e w' => ∃ x t p, e = .returned (.tuple #[.int .i64 x, .iface t p]) ∧ Below w.heap.size w w' := by
  obtain ⟨⟨t1, p1, h1⟩, ⟨t2, p2, h2⟩, h3⟩ := hv
  rcases h with h | h
  · exact (Any.strconv_Atoi_syntax_var Tryd.laysC172 s (by omega) h t1 p1 w h1).mono fun e w' ⟨N, he, _, _, hb⟩ => ⟨_, _, _, he, hb⟩
  · exact (Any.strconv_Atoi_range_var Tryd.laysC172 s (by omega) h t2 p2 w h2).mono fun e w' ⟨N, he, _, _, hb⟩ => ⟨_, _, _, he, hb⟩
theorem itoa_ok (v : Int) (h0 : -9223372036854775808 ≤ v) (h1 : v ≤ 9223372036854775807) (w : World) (hv : VarsOk w) : Calls Tryd.prog 57 #[.int .i64 v] w fun e w' => e = .returned (.string ⟨(Lib.itoa v).toArray⟩) ∧ Below w.heap.size w w' :=
  (Any.strconv_Itoa Tryd.laysM171 v h0 h1 w hv.2.2).mono fun e w' ⟨he, k, os, hw⟩ => ⟨he, by rw [hw]; exact Go.Lib.below_grow _ _ (Nat.le_refl _) k os⟩
set_option maxHeartbeats 8000000 in
set_option maxRecDepth 100000 in
theorem impl_whole.calls (s : ByteArray) (lo hi : Int) (w : World) (hs : s.size ≤ 1048576) (hv : VarsOk w) :
    Calls Tryd.prog 55 #[.string s, .int .i64 lo, .int .i64 hi] w fun e w' => e = .returned (.tuple #[.int .i64 (wholeOf s lo hi).1, .bool (wholeOf s lo hi).2]) ∧ Below w.heap.size w w' := by
  have HV := Aside0.mk hv
  unfold wholeOf
  cases ha : Lib.atoiAll s.data.toList with
  | ok v =>
    obtain ⟨v0, v1⟩ := Lib.atoiAll_bounds ha
    have HA := Aside0.mk (fun w => atoi_ok s hs v ha w)
    have HI := Aside0.mk (fun w hv => itoa_ok v (by omega) (by omega) w hv)
    clear ha hs v0 v1
    simp only
    by_cases c1 : v < lo
    · rw [if_pos c1]
      have c1b : decide (v < lo) = true := decide_eq_true c1
      clear c1 hv
      go_enter Tryd.func55, Tryd.ntmps55
      go_wp2_with (first | (go_at_call 58; refine (HA.out _).mono ?_; rintro e w6 ⟨rfl, hb⟩; have HB6 := Aside0.mk hb; clear hb))
      go_ret2
      exact ⟨rfl, HB6.out⟩
    · rw [if_neg c1]
      have c1b : decide (v < lo) = false := decide_eq_false c1
      by_cases c2 : v > hi
      · rw [if_pos c2]
        have c2b : decide (hi < v) = true := decide_eq_true c2
        clear c1 c2 hv
        go_enter Tryd.func55, Tryd.ntmps55
        go_wp2_with (first | (go_at_call 58; refine (HA.out _).mono ?_; rintro e w6 ⟨rfl, hb⟩; have HB6 := Aside0.mk hb; clear hb))
        go_ret2
        exact ⟨rfl, HB6.out⟩
      · rw [if_neg c2]
        have c2b : decide (hi < v) = false := decide_eq_false c2
        obtain ⟨t, ht⟩ : ∃ t : ByteArray, t = ⟨(Lib.itoa v).toArray⟩ := ⟨_, rfl⟩
        rw [← ht] at HI ⊢
        by_cases c3 : (t.toList == s.toList) = true
        · rw [if_pos c3]
          have c3b := c3
          clear c1 c2 c3 ht hv
          go_enter Tryd.func55, Tryd.ntmps55
          go_wp2_with (first | (go_at_call 58; refine (HA.out _).mono ?_; rintro e w6 ⟨rfl, hb⟩; have HB6 := Aside0.mk hb; have HV6 := Aside0.mk (HV.out.below hb); clear hb) | (go_at_call 57; refine (HI.out _ HV6.out).mono ?_; rintro e w7 ⟨rfl, hb⟩; have HB7 := Aside0.mk (below_step HB6.out hb); clear hb))
          go_ret2
          exact ⟨rfl, HB7.out⟩
        · rw [if_neg c3]
          have c3b : (t.toList == s.toList) = false := Bool.eq_false_iff.mpr c3
          clear c1 c2 c3 ht hv
          go_enter Tryd.func55, Tryd.ntmps55
          go_wp2_with (first | (go_at_call 58; refine (HA.out _).mono ?_; rintro e w6 ⟨rfl, hb⟩; have HB6 := Aside0.mk hb; have HV6 := Aside0.mk (HV.out.below hb); clear hb) | (go_at_call 57; refine (HI.out _ HV6.out).mono ?_; rintro e w7 ⟨rfl, hb⟩; have HB7 := Aside0.mk (below_step HB6.out hb); clear hb))
          go_ret2
          exact ⟨rfl, HB7.out⟩
  | «syntax» =>
    have HA := Aside0.mk (fun w hv => atoi_no s hs (.inl ha) w hv)
    clear ha hs
    simp only
    go_enter Tryd.func55, Tryd.ntmps55
    go_wp2_with (first | (go_at_call 58; refine (HA.out _ HV.out).mono ?_; rintro e w6 ⟨x6, t6, p6, rfl, hb⟩; have HB6 := Aside0.mk hb; clear hb))
    go_ret2
    exact ⟨rfl, HB6.out⟩
  | range =>
    have HA := Aside0.mk (fun w hv => atoi_no s hs (.inr ha) w hv)
    clear ha hs
    simp only
    go_enter Tryd.func55, Tryd.ntmps55
    go_wp2_with (first | (go_at_call 58; refine (HA.out _ HV.out).mono ?_; rintro e w6 ⟨x6, t6, p6, rfl, hb⟩; have HB6 := Aside0.mk hb; clear hb))
    go_ret2
    exact ⟨rfl, HB6.out⟩
set_option maxHeartbeats 8000000 in
set_option maxRecDepth 100000 in
theorem impl_ParseNumber.calls (s : ByteArray) (w : World) (hs : s.size ≤ 1048576) (hv : VarsOk w) :
    Calls Tryd.prog 45 #[.string s] w fun e w' => e = .returned (.tuple #[.int .i64 (wholeOf s 0 999999).1, .bool (wholeOf s 0 999999).2]) ∧ Below w.heap.size w w' := by
  have HC := Aside0.mk (impl_whole.calls s 0 999999 w hs hv)
  clear hs hv
  generalize wholeOf s 0 999999 = q at HC ⊢
  obtain ⟨q1, q2⟩ := q
  go_enter Tryd.func45, Tryd.ntmps45
  go_wp2_with (first | (go_at_call 55; refine HC.out.mono ?_; rintro e w6 ⟨rfl, hb⟩; have HB6 := Aside0.mk hb; clear hb))
  go_ret2
  exact ⟨rfl, HB6.out⟩

end Go.Proofs.YtmidcafamppkeaaDoor.P
