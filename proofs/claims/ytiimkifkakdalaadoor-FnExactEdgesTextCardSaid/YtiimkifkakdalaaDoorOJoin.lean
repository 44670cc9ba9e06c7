/- impl.Join, by the shelf's contract of strings.Join: what a call of it computes. Conditions: the text that comes out is at most 2^40 long. -/
import Derived.Test.YtiimkifkakdalaaDoorP0
import Derived.Test.YtiimkifkakdalaaDoorWAll2
import Derived.Ground.NamesProg
import Derived.Shelf.Lay
import Derived.Shelf.Strings.OnBuilder
namespace Go.Proofs
open Go.Shelf
shelf_lay Lays.n156 Nm 156 at Tryd as Tryd.lays156
theorem Tryd.builderExtra : Builder.Extra Tryd.prog Tryd.lays156_ren where
  sizeBuilder := by kernel_rfl
  liesBuilder := by kernel_rfl
  t5 := Tryd.underlying5
  a5 := Tryd.isAgg5
  z5 := Tryd.sizeOf5
  v5 := Tryd.zeroValue5
  infoByte := by kernel_rfl
  cellsByte := by kernel_rfl
  sizeByte := by kernel_rfl
  neB5 := by decide
end Go.Proofs
namespace Go.Proofs.YtiimkifkakdalaaDoor.P
open Go.RowKit Go.Proofs.YtiimkifkakdalaaDoorW.PrintWords Go.Proofs.YtiimkifkakdalaaDoorW.PrintLast Go.Proofs.YtiimkifkakdalaaDoorW.PrintMore
set_option linter.unusedVariables false
set_option linter.unusedSimpArgs false

def impl_Join.f (l : List ByteArray) (s : ByteArray) : Option ByteArray := if l.length < 1099511627776 then (if (Lib.join (l.map (·.data.toList)) s.data.toList).length ≤ 140737488355328 then some ⟨(Lib.join (l.map (·.data.toList)) s.data.toList).toArray⟩ else none) else none
theorem join_call (A0 : Option Addr) (c0 : Nat) (l0 : List ByteArray) (a1 : ByteArray) (w : World) (hr0 : Kd.C Kd.string w A0 l0.length l0) (hc0 : l0.length ≤ c0) (hN : l0.length < 1099511627776) (hlen : (Lib.join (l0.map (·.data.toList)) a1.data.toList).length ≤ 140737488355328) :
    Calls Tryd.prog 32 #[.slice A0 l0.length c0, .string a1] w fun e w' => e = .returned (.string ⟨(Lib.join (l0.map (·.data.toList)) a1.data.toList).toArray⟩) ∧ Below w.heap.size w w' := by
  cases l0 with
  | nil => exact (Any.strings_Join_none Tryd.lays156 Tryd.builderExtra A0 c0 a1 w).mono fun e w' ⟨he, hw⟩ => ⟨he, hw ▸ Below.refl _ _⟩
  | cons x r =>
    obtain ⟨ad, rfl, h0⟩ := Kd.at_string hr0 0 (by omega) (by simp only [List.length_cons]; omega)
    have hcell : ∀ (j : Nat) y, (x :: r)[j]? = some y → w.cell? (ad.add j) = some (.string y) := by
      intro j y hj
      have hlt : j < (x :: r).length := (List.getElem?_eq_some_iff.1 hj).1
      obtain ⟨ad2, he, h⟩ := Kd.at_string hr0 (j : Int) (by omega) (by omega)
      cases he
      rw [Int.toNat_natCast] at h
      rw [h]
      congr 2
      unfold rdOf
      rw [Int.toNat_natCast, List.getD_eq_getElem?_getD, hj]; rfl
    obtain ⟨bk, off, spot⟩ := ad
    have hsp : spot = none := by
      cases spot with
      | none => rfl
      | some q =>
        exfalso
        have := hcell 0 x rfl
        unfold World.cell? Addr.add at this
        split at this <;> simp at this
    subst hsp
    exact Any.strings_Join Tryd.lays156 Tryd.builderExtra bk off c0 (x :: r) a1 w (fun j y hj => by
      have h := hcell j y hj
      unfold Addr.add at h
      split at h
      · rename_i h0; subst h0; exact h
      · exact h) (World.block_lt_of_cell? w _ (hcell 0 x rfl)) (by omega) hc0 hlen
set_option maxHeartbeats 8000000 in
set_option maxRecDepth 100000 in
theorem impl_Join.calls (A0 : Option Addr) (c0 : Nat) (l0 : List ByteArray) (a1 : ByteArray) (r : ByteArray) (w : World) (hr0 : Kd.C Kd.string w A0 l0.length l0) (hc0 : l0.length ≤ c0) (h : impl_Join.f l0 a1 = some r) :
    Calls Tryd.prog 22 #[.slice A0 l0.length c0, .string a1] w fun e w' => e = .returned (.string r) ∧ Below w.heap.size w w' := by
  unfold impl_Join.f at h
  by_cases h0 : l0.length < 1099511627776
  · rw [if_pos h0] at h
    by_cases h1 : (Lib.join (l0.map (·.data.toList)) a1.data.toList).length ≤ 140737488355328
    · rw [if_pos h1] at h
      obtain rfl := Option.some.inj h
      have HC := Aside0.mk (join_call A0 c0 l0 a1 w hr0 hc0 h0 h1)
      clear h h0 h1 hr0 hc0
      generalize (⟨(Lib.join (l0.map (·.data.toList)) a1.data.toList).toArray⟩ : ByteArray) = R at HC ⊢
      go_enter Tryd.func22, Tryd.ntmps22
      go_wp2_with (first | (go_at_call 32; refine HC.out.mono ?_; rintro e w6 ⟨rfl, hb⟩))
      go_ret
      exact ⟨rfl, hb⟩
    · rw [if_neg h1] at h; exact absurd h (by simp)
  · rw [if_neg h0] at h; exact absurd h (by simp)

end Go.Proofs.YtiimkifkakdalaaDoor.P
