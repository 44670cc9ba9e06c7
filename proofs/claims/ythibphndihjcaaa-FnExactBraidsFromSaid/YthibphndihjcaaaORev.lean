/- The library's Reverse of a slice of three pairs of numbers: what a call of it computes. Conditions: the slice's block holds just these six numbers. -/
import Derived.Test.YthibphndihjcaaaP0
import Derived.Test.YthibphndihjcaaaWAll2
namespace Go.Proofs.Ythibphndihjcaaa.P
open Go.RowKit Go.Proofs.YthibphndihjcaaaW.PrintWords Go.Proofs.YthibphndihjcaaaW.PrintLast Go.Proofs.YthibphndihjcaaaW.PrintMore
set_option linter.unusedVariables false
set_option linter.unusedSimpArgs false

def rev3.T3 : Bool × List (List Nat × List Nat) := (true, [([], []), ([], []), ([], []), ([], []), ([], []), ([], []), ([4, 5], [4, 5]), ([6], [6]), ([], []), ([], []), ([8, 9], [8, 9]), ([10], [10]), ([0, 1, 0, 1, 4, 5, 6, 7, 11], [0, 1]), ([12, 7, 0, 1, 4, 5, 6, 7, 11], [7, 12]), ([2, 3, 0, 1, 2, 3, 4, 5, 6, 7, 8, 9, 10, 11, 12, 13], [2, 3]), ([14, 11, 13, 0, 1, 2, 3, 4, 5, 6, 7, 8, 9, 10, 11, 12, 13], [11, 14])])
def rev3.B3 : List Nat := [0, 0, 0, 0, 0, 0, 48, 112, 0, 0, 768, 1792, 4083, 8179, 16383, 32767]
theorem rev3.tab3 : rtab .any (opsOf Try.f107 3) = rev3.T3 := by kernel_rfl
theorem rev3.bits3 : waitsOk rev3.T3.2 rev3.B3 = true := by kernel_rfl
set_option maxHeartbeats 8000000 in
set_option maxRecDepth 100000 in
theorem rev3.calls (g c : Nat) (u0 u1 u2 u3 u4 u5 : Int) (w : World) (hg : w.heap[g]? = some (.cells #[.int .i64 u0, .int .i64 u1, .int .i64 u2, .int .i64 u3, .int .i64 u4, .int .i64 u5] 116 (0, 0))) :
    Calls Try.prog 107 #[.slice (some ⟨g, 0, none⟩) 3 c] w fun e w' => e = .returned (.tuple #[]) ∧ w'.heap[g]? = some (.cells #[.int .i64 u4, .int .i64 u5, .int .i64 u2, .int .i64 u3, .int .i64 u0, .int .i64 u1] 116 (0, 0)) ∧ Below g w w' := by
  have BK := Aside0.mk hg
  clear hg
  go_enter Try.func107, Try.ntmps107
  go_wp2
  go_loopg [2, 3] 1 (fun gg v2 v3 w' => (gg = 1 ∧ v2 = .int .i64 0 ∧ v3 = .int .i64 2 ∧ w' = w) ∨ (v2 = .int .i64 1 ∧ v3 = .int .i64 1 ∧ Aside0 (w'.heap[g]? = some (.cells #[.int .i64 u4, .int .i64 u5, .int .i64 u2, .int .i64 u3, .int .i64 u0, .int .i64 u1] 116 (0, 0))) ∧ Aside0 (Below g w w')))
  case atStart => exact .inl ⟨rfl, rfl, rfl, rfl⟩
  case round =>
    rcases hrel with ⟨rfl, rfl, rfl, rfl⟩ | ⟨rfl, rfl, HQ, HB⟩
    · have h0 := bc BK 0
      have h1 := bc BK 1
      have h4 := bc BK 4
      have h5 := bc BK 5
      have f0 := bf BK 0
      have f1 := bf BK 1
      have f4 := bf BK 4
      have f5 := bf BK 5
      go_wp2
      refine start_ (n := 16) (S := fun w' => w'.cell? ⟨g, 4, none⟩ = some (.int .i64 u4) ∧ w'.cell? ⟨g, 5, none⟩ = some (.int .i64 u5) ∧ w'.cell? ⟨g, 0, none⟩ = some (.int .i64 u0) ∧ w'.cell? ⟨g, 1, none⟩ = some (.int .i64 u1)) (ds := [13, 15]) #[false, false, false, false, false, false, false, false, false, false, false, false, false, false, false, false] (by kernel_rfl) rfl rfl ⟨h4, h5, h0, h1⟩ (fun hHeld => ?_); refine with_tabW rev3.tab3 rev3.bits3 (fun HT_ HW_ => ?_)
      refine pu 0 14 HT_ ?_
      refine pu 1 15 HT_ ?_
      refine pu 2 16 HT_ ?_
      refine pu 3 17 HT_ ?_
      refine pu 4 18 HT_ ?_
      refine pu 5 19 HT_ ?_
      refine pu 6 20 HT_ ?_
      refine pu 8 22 HT_ ?_
      refine pu 9 23 HT_ ?_
      refine pu 10 24 HT_ ?_
      refine take_ (i := 7) (N := some 21) (v := ?_) (a' := ?_) #[true, true, true, true, true, true, true, true, true, true, true, false, false, false, false, false] rfl rfl (take_ofW HT_.out HW_.out (by kernel_rfl)) (fun _ _ _ h => h) (Or.inl ⟨by rfl, ?_⟩) hHeld ?_ ?_
      rotate_left
      · rintro w' ⟨s0, s1, s2, s3⟩
        go_simp
        with_reducible rfl
      rotate_left
      · simp only [Act.put, List.setIfInBounds_toArray, List.set_cons_zero, List.set_cons_succ, i64_w, i32_w]
        rfl
      refine take_ (i := 11) (N := some 25) (v := ?_) (a' := ?_) #[true, true, true, true, true, true, true, true, true, true, true, true, false, false, false, false] rfl rfl (take_ofW HT_.out HW_.out (by kernel_rfl)) (fun _ _ _ h => h) (Or.inl ⟨by rfl, ?_⟩) hHeld ?_ ?_
      rotate_left
      · rintro w' ⟨s0, s1, s2, s3⟩
        go_simp
        with_reducible rfl
      rotate_left
      · simp only [Act.put, List.setIfInBounds_toArray, List.set_cons_zero, List.set_cons_succ, i64_w, i32_w]
        rfl
      refine pu 12 26 HT_ ?_
      refine last_ (i := 13) (N := none) #[true, true, true, true, true, true, true, true, true, true, true, true, true, true, false, false] rfl rfl (one_of HT_.out (by kernel_rfl)) (by decide) (fun K hK => ?_)
      refine skip_ (w1 := ?_) (by rfl) rfl ?_ ?_
      rotate_left
      · go_simp
        rfl
      refine hK.out _ _ ?_
      clear hK K
      refine pu 14 27 HT_ ?_
      refine last_ (i := 15) (N := none) #[true, true, true, true, true, true, true, true, true, true, true, true, true, true, true, true] rfl rfl (one_of HT_.out (by kernel_rfl)) (by decide) (fun K hK => ?_)
      refine skip_ (w1 := ?_) (by rfl) rfl ?_ ?_
      rotate_left
      · go_simp
        rfl
      refine hK.out _ _ ?_
      clear hK K
      refine done_ (done_of HT_.out (by kernel_rfl)) ?_
      go_wp2
      go_roundg 0
      case measure => omega
      case rel => exact .inr ⟨rfl, rfl, ⟨blk_drew (blk_put (blk_put (blk_put (blk_put BK.out 0 _ rfl) 1 _ rfl) 4 _ rfl) 5 _ rfl)⟩, ⟨below_drew1 (((((Below.refl g _).setCell (Nat.le_refl g) _).setCell (Nat.le_refl g) _).setCell (Nat.le_refl g) _).setCell (Nat.le_refl g) _)⟩⟩
    · go_wp2
      go_end0
      exact ⟨rfl, HQ.out, HB.out⟩

end Go.Proofs.Ythibphndihjcaaa.P
