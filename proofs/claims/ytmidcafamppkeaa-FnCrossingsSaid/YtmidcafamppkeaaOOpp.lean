/- impl.opposite: what a call of it computes. Condition: the text's length is an int. -/
import Derived.Test.YtmidcafamppkeaaP0
import Derived.Laws.IdiomStrings
namespace Go.Proofs.Ytmidcafamppkeaa.P
open Go.RowKit Go.Proofs.YtmidcafamppkeaaW.PrintWords Go.Proofs.YtmidcafamppkeaaW.PrintLast Go.Proofs.YtmidcafamppkeaaW.PrintMore
set_option linter.unusedVariables false
set_option linter.unusedSimpArgs false

def oppc (b : UInt8) : UInt8 := if b = 43 then 45 else if b = 45 then 43 else b
def oppB (s : ByteArray) : ByteArray := ⟨(s.data.toList.map oppc).toArray⟩
def impl_opposite.f (s : ByteArray) : Option ByteArray := if s.size ≤ 9223372036854775807 then some (oppB s) else none

/-- The row of bytes, the first i of them turned. -/
def OppAt (w : World) (g : Nat) (s : ByteArray) (i : Nat) : Prop := ∃ (cs : Array Value) (m : Nat), w.heap[g]? = some (.cells cs 5 (m, m + 1)) ∧ s.data.size ≤ m ∧ ∀ j (hj : j < s.data.size), cs[j]? = some (.int .u8 ((if j < i then oppc s.data[j] else s.data[j]).toNat : Int))

theorem opp_start (w : World) (s : ByteArray) (cap : Nat) : OppAt (w.drew.alloc (.cells (bytesRow s cap) 5 ((bytesRow s cap).size, (bytesRow s cap).size + 1))) w.heap.size s 0 := by
  refine ⟨_, _, heap_alloc_new w.drew _, ?_, fun j hj => ?_⟩
  · unfold bytesRow; simp
  · rw [bytesRow_at s cap j hj]; simp
theorem opp_cell {w : World} {g i : Nat} {s : ByteArray} (h : OppAt w g s i) (j : Nat) (hj : j < s.data.size) :
    w.cell? ⟨g, j, none⟩ = some (.int .u8 ((if j < i then oppc s.data[j] else s.data[j]).toNat : Int)) ∧ w.frozen? ⟨g, j, none⟩ = false := by
  obtain ⟨cs, m, hb, hm, hc⟩ := h
  constructor
  · unfold World.cell?; rw [hb]; simpa using hc j hj
  · unfold World.frozen?; rw [hb]; simp; omega
theorem opp_keep {w : World} {g i : Nat} {s : ByteArray} (h : OppAt w g s i) (hi : i < s.data.size) (he : oppc s.data[i] = s.data[i]) : OppAt w g s (i + 1) := by
  obtain ⟨cs, m, hb, hm, hc⟩ := h
  refine ⟨cs, m, hb, hm, fun j hj => ?_⟩
  rw [hc j hj]
  by_cases h1 : j < i
  · rw [if_pos h1, if_pos (by omega)]
  · rw [if_neg h1]
    by_cases h2 : j = i
    · subst h2; rw [if_pos (by omega), he]
    · rw [if_neg (by omega)]
theorem opp_set {w : World} {g i : Nat} {s : ByteArray} (h : OppAt w g s i) (hi : i < s.data.size) {n : Int} (he : ((oppc s.data[i]).toNat : Int) = n) : OppAt (w.setCell ⟨g, i, none⟩ (.int .u8 n)) g s (i + 1) := by
  obtain ⟨cs, m, hb, hm, hc⟩ := h
  subst he
  have hcs : i < cs.size := by
    have h1 := hc i hi
    rcases Nat.lt_or_ge i cs.size with h2 | h2
    · exact h2
    · rw [Array.getElem?_eq_none h2] at h1; cases h1
  have hg : g < w.heap.size := by
    rcases Nat.lt_or_ge g w.heap.size with h2 | h2
    · exact h2
    · rw [Array.getElem?_eq_none h2] at hb; cases hb
  refine ⟨cs.setIfInBounds i (.int .u8 ((oppc s.data[i]).toNat : Int)), m, ?_, hm, fun j hj => ?_⟩
  · simp [World.setCell, Array.getElem?_modify, hb]
  · by_cases h1 : j = i
    · subst h1
      rw [if_pos (by omega)]
      simp [hcs]
    · rw [Array.getElem?_setIfInBounds_ne (Ne.symm h1), hc j hj]
      by_cases h2 : j < i
      · rw [if_pos h2, if_pos (by omega)]
      · rw [if_neg h2, if_neg (by omega)]
theorem opp_back {w : World} {g : Nat} {s : ByteArray} (h : OppAt w g s s.size) (c : Nat) :
    (convert 22 9 (.slice (some ⟨g, 0, none⟩) s.size c)).run Try.prog w = .ok (.string (oppB s)) w := by
  have hl : (s.data.toList.map oppc).length = s.size := by rw [List.length_map, Array.length_toList]; rfl
  have h2 := run_convert_bytes_back (P := Try.prog) w 22 9 5 ⟨g, 0, none⟩ c (s.data.toList.map oppc) Try.underlying22 Try.underlying5 Try.underlying9 (fun j hj => by
    have hj2 : j < s.data.size := by rw [hl] at hj; exact hj
    have ha : (⟨g, 0, none⟩ : Addr).add j = ⟨g, j, none⟩ := by unfold Addr.add; split <;> simp_all
    rw [ha, (opp_cell h j hj2).1, if_pos (show j < s.size from hj2)]
    simp)
  rw [hl] at h2
  exact h2
set_option maxHeartbeats 8000000 in
set_option maxRecDepth 100000 in
theorem impl_opposite.calls (a0 : ByteArray) (r : ByteArray) (w : World) (h : impl_opposite.f a0 = some r) :
    Calls Try.prog 97 #[.string a0] w fun e w' => e = .returned (.string r) ∧ Below w.heap.size w w' := by
  unfold impl_opposite.f at h
  by_cases hlim : a0.size ≤ 9223372036854775807
  case neg => rw [if_neg hlim] at h; cases h
  rw [if_pos hlim] at h
  obtain rfl := Option.some.inj h
  clear h
  have hconv := run_bytes_of_string (P := Try.prog) w 9 22 5 a0 Try.underlying9 Try.underlying22 Try.underlying5
  have hst : OppAt (w.alloc (.cells (bytesRow a0 (grownCap w a0.size 0 5)) 5 ((bytesRow a0 (grownCap w a0.size 0 5)).size, (bytesRow a0 (grownCap w a0.size 0 5)).size + 1))).drew w.heap.size a0 0 := opp_start w a0 (grownCap w a0.size 0 5)
  have HB0 : Below w.heap.size w ((w.alloc (.cells (bytesRow a0 (grownCap w a0.size 0 5)) 5 ((bytesRow a0 (grownCap w a0.size 0 5)).size, (bytesRow a0 (grownCap w a0.size 0 5)).size + 1))).drew) := below_drew1 (below_alloc (Below.refl _ _) _)
  go_enter Try.func97, Try.ntmps97
  go_wp2
  generalize (w.alloc (.cells (bytesRow a0 (grownCap w a0.size 0 5)) 5 ((bytesRow a0 (grownCap w a0.size 0 5)).size, (bytesRow a0 (grownCap w a0.size 0 5)).size + 1))).drew = w1 at *
  go_loopg [10] a0.size (fun kq v10 w' => ∃ (i : Nat), v10 = .int .i64 (i : Int) ∧ i + kq = a0.size ∧ OppAt w' w.heap.size a0 i ∧ Below w.heap.size w w')
  case atStart => exact ⟨0, by simp, by omega, hst, HB0⟩
  case round =>
    obtain ⟨i, rfl, hk, HO, HB⟩ := hrel
    cases gk with
    | zero =>
      obtain rfl : i = a0.size := by omega
      have hback := opp_back HO (grownCap w a0.size 0 5)
      go_wp2
      go_ret
      exact ⟨rfl, HB⟩
    | succ k1 =>
      have hi : i < a0.data.size := by show i < a0.size; omega
      obtain ⟨hx, hf⟩ := opp_cell HO i hi
      rw [if_neg (Nat.lt_irrefl i)] at hx
      have c10 : decide ((i : Int) < (a0.size : Int)) = true := decide_eq_true (by have : i < a0.size := hi; omega)
      have c10n : decide (i < a0.size) = true := decide_eq_true hi
      have p10 : (0 ≤ (i : Int)) = True := eq_true (by omega)
      have q10 : ((i : Int) < (a0.size : Int)) = True := eq_true (by have : i < a0.size := hi; omega)
      have q10n : (i < a0.size) = True := eq_true hi
      have hw10 : wrap64 ((i : Int) + 1) = ((i + 1 : Nat) : Int) := by
        have : i < a0.size := hi
        rw [Go.IntWalk.wrap64_in _ (by omega)]; omega
      have hge : w.heap.size ≤ w.heap.size := Nat.le_refl _
      by_cases h43 : a0.data[i] = 43
      · have e1 : (((a0.data[i].toNat : Nat) : Int) == 43) = true := by rw [h43]; rfl
        have hS := opp_set HO hi (n := 45) (by unfold oppc; rw [if_pos h43]; rfl)
        have hB2 := below_set (g := w.heap.size) (j := i) (v := .int .u8 45) HB (Nat.le_refl _)
        go_wp2
        go_roundg k1
        case measure => omega
        case rel => exact ⟨i + 1, by simp [hw10], by omega, hS, hB2⟩
      · have e1 : (((a0.data[i].toNat : Nat) : Int) == 43) = false := by
          exact beq_eq_false_iff_ne.2 (fun h1 => h43 (UInt8.toNat_inj.1 (Int.ofNat.inj h1)))
        by_cases h45 : a0.data[i] = 45
        · have e2 : (((a0.data[i].toNat : Nat) : Int) == 45) = true := by rw [h45]; rfl
          have hS := opp_set HO hi (n := 43) (by unfold oppc; rw [if_neg h43, if_pos h45]; rfl)
          have hB2 := below_set (g := w.heap.size) (j := i) (v := .int .u8 43) HB (Nat.le_refl _)
          go_wp2
          go_roundg k1
          case measure => omega
          case rel => exact ⟨i + 1, by simp [hw10], by omega, hS, hB2⟩
        · have e2 : (((a0.data[i].toNat : Nat) : Int) == 45) = false := by
            exact beq_eq_false_iff_ne.2 (fun h1 => h45 (UInt8.toNat_inj.1 (Int.ofNat.inj h1)))
          have hS := opp_keep HO hi (by unfold oppc; rw [if_neg h43, if_neg h45])
          go_wp2
          go_roundg k1
          case measure => omega
          case rel => exact ⟨i + 1, by simp [hw10], by omega, hS, HB⟩
end Go.Proofs.Ytmidcafamppkeaa.P
