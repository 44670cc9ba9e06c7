-- Printed by a program of this session (wip/tools/myprint.py, over the kit's print.py); not trusted: Lean checks it.
import Derived.Test.YtmidcafamppkeaaSq
import Derived.Test.YtmidcafamppkeaaWAll2
import Derived.Test.YtmidcafamppkeaaP0
namespace Go.Proofs.Ytmidcafamppkeaa.P
open Go.RowKit Go.Proofs.YtmidcafamppkeaaW.PrintWords Go.Proofs.YtmidcafamppkeaaW.PrintLast Go.Proofs.YtmidcafamppkeaaW.PrintMore
attribute [local go_sem] max2_int min2_int max_two min_two max_three min_three max_four min_four   -- for this text's walks alone
set_option linter.unusedVariables false
set_option linter.unusedSimpArgs false

/-! ### laws_big: function 4 -/
def laws_big.f (l0 : List Int) : Option (Bool) := some (decide ((l0.length : Int) > 1048576))
set_option maxHeartbeats 8000000 in
set_option maxRecDepth 100000 in
theorem laws_big.calls (A0 : Option Addr) (c0 : Nat) (l0 : List Int) (r : Bool) (w : World) (hr0 : Kd.C (Kd.int .u8) w A0 l0.length l0) (hc0 : l0.length ≤ c0) (h : laws_big.f l0 = some r) :
  Calls Try.prog 4 #[.slice A0 l0.length c0] w fun e w' => e = .returned (.bool r) ∧ Drawn0 w w' := by
 have HR0 := Aside0.mk hr0; have HC0 := Aside0.mk hc0; clear hr0 hc0; have H := h; unfold laws_big.f at H; clear h; obtain rfl := Option.some.inj H; go_enter Try.func4, Try.ntmps4; go_wp2; go_ret; exact ⟨by rfl, by repeat (exact Drawn0.refl _)⟩

/-- A state of type 72 at block g of W; what its slices lead to came in by w0. -/
def IsS72 (w0 W : World) (g : Nat) (f0 : List Int) (f1 : Int) (f2 : Int) : Prop := ∃ (A0 : Option Addr) (c0 : Nat), W.heap[g]? = some (.cells #[.slice A0 f0.length c0, .int .i64 f1, .int .i64 f2] 72 (0, 0)) ∧ w0.heap.size ≤ g ∧ Kd.C (Kd.int .u8) w0 A0 f0.length f0
theorem IsS72.grown {w0 W : World} {g : Nat} {f0 : List Int} {f1 f2 : Int} {W1 : World} {row : Option Nat} (h : IsS72 w0 W g f0 f1 f2) (hw : W.grownBy W1 row) (hne : some g ≠ row) : IsS72 w0 W1 g f0 f1 f2 := by
 obtain ⟨A0, c0, hb, hg, hr0⟩ := h; exact ⟨A0, c0, blk_grown hb hw hne, hg, hr0⟩
theorem IsS72.kept {w0 W : World} {g : Nat} {f0 : List Int} {f1 f2 : Int} {W1 : World} {S : Nat → Prop} (h : IsS72 w0 W g f0 f1 f2) (hk : Kept W W1 S) (hne : ¬ S g) : IsS72 w0 W1 g f0 f1 f2 := by
 obtain ⟨A0, c0, hb, hg, hr0⟩ := h; exact ⟨A0, c0, blk_kept hb hk hne, hg, hr0⟩
theorem IsS72.below {w0 W : World} {g : Nat} {f0 : List Int} {f1 f2 : Int} {W1 : World} (h : IsS72 w0 W g f0 f1 f2) (hw : Below W.heap.size W W1) : IsS72 w0 W1 g f0 f1 f2 := h.grown (grown_of_below hw none) (by simp)
theorem IsS72.alloc {w0 W : World} {g : Nat} {f0 : List Int} {f1 f2 : Int} (h : IsS72 w0 W g f0 f1 f2) (o : Obj) : IsS72 w0 (W.alloc o) g f0 f1 f2 := h.below (below_alloc (Below.refl _ _) o)
theorem IsS72.drewN {w0 W : World} {g : Nat} {f0 : List Int} {f1 f2 : Int} (h : IsS72 w0 W g f0 f1 f2) (m : Nat) : IsS72 w0 (W.drewN m) g f0 f1 f2 := h
theorem IsS72.drew {w0 W : World} {g : Nat} {f0 : List Int} {f1 f2 : Int} (h : IsS72 w0 W g f0 f1 f2) : IsS72 w0 W.drew g f0 f1 f2 := h
theorem IsS72.at_ {w0 W : World} {g : Nat} {f0 : List Int} {f1 f2 : Int} {w' : World} {m : Nat} (hq : W.drewN m = w') (h : IsS72 w0 W g f0 f1 f2) : IsS72 w0 w' g f0 f1 f2 := by subst hq; exact IsS72.drewN h m
theorem IsS72.apart {w0 W : World} {g : Nat} {f0 : List Int} {f1 f2 : Int} {α : Type} {d : Kd α} {e base : Nat} {ok : Nat → Prop} {v : Value} {xs : List α} (h : IsS72 w0 W g f0 f1 f2) (ho : d.R e W base ok v xs) (ht : ∀ q, q ∈ e :: d.E → q ≠ 72) : d.R e W base (fun k => ok k ∧ k ≠ g) v xs := by
 obtain ⟨A0, c0, hb, hg, hr0⟩ := h; exact Kd.R_types ho hb ht
theorem IsS72.own_ne {w0 W : World} {g : Nat} {f0 : List Int} {f1 f2 : Int} {α : Type} {d : Kd α} {e base : Nat} {ok : Nat → Prop} {v : Value} {xs : List α} (h : IsS72 w0 W g f0 f1 f2) (ho : d.R e W base ok v xs) (ht : e ≠ 72) : some g ≠ v.ownBlock := by
 obtain ⟨A0, c0, hb, hg, hr0⟩ := h; exact Kd.R_ne ho hb ht
theorem IsS72.lt {w0 W : World} {g : Nat} {f0 : List Int} {f1 f2 : Int} (h : IsS72 w0 W g f0 f1 f2) : g < W.heap.size := by
 obtain ⟨A0, c0, hb, hg, hr0⟩ := h; exact blk_lt hb
theorem IsS72.ge {w0 W : World} {g : Nat} {f0 : List Int} {f1 f2 : Int} (h : IsS72 w0 W g f0 f1 f2) : w0.heap.size ≤ g := by
 obtain ⟨A0, c0, hb, hg, hr0⟩ := h; exact hg
theorem IsS72.ne_blk {w0 W : World} {g : Nat} {f0 : List Int} {f1 f2 : Int} {a : Nat} {cs : Array Value} {t : TypeId} {fr : Nat × Nat} (h : IsS72 w0 W g f0 f1 f2) (hb2 : W.heap[a]? = some (.cells cs t fr)) (ht : t ≠ 72) : g ≠ a := by
 obtain ⟨A0, c0, hb, hg, hr0⟩ := h; rintro rfl; rw [hb] at hb2; injection hb2 with hb2; injection hb2 with _ ht2; exact ht ht2.symm
theorem IsS72.far {w0 W : World} {g : Nat} {f0 : List Int} {f1 f2 : Int} {p : Addr} (h : IsS72 w0 W g f0 f1 f2) (hne : g ≠ p.block) (u : Value) : IsS72 w0 (W.setCell p u) g f0 f1 f2 := by
 obtain ⟨A0, c0, hb, hg, hr0⟩ := h; exact ⟨A0, c0, blk_far hb hne u, hg, hr0⟩
theorem cellS72_0 {W : World} {g : Nat} {A0 : Option Addr} {c0 : Nat} {f0 : List Int} {f1 f2 : Int} (h : W.heap[g]? = some (.cells #[.slice A0 f0.length c0, .int .i64 f1, .int .i64 f2] 72 (0, 0))) : W.cell? ⟨g, 0, none⟩ = some (.slice A0 f0.length c0) := (blk_cell h 0).trans rfl
theorem cellS72_1 {W : World} {g : Nat} {A0 : Option Addr} {c0 : Nat} {f0 : List Int} {f1 f2 : Int} (h : W.heap[g]? = some (.cells #[.slice A0 f0.length c0, .int .i64 f1, .int .i64 f2] 72 (0, 0))) : W.cell? ⟨g, 1, none⟩ = some (.int .i64 f1) := (blk_cell h 1).trans rfl
theorem IsS72.set_1 {w0 W : World} {g : Nat} {f0 : List Int} {f1 f2 : Int} (h : IsS72 w0 W g f0 f1 f2) (x : Int) : IsS72 w0 (W.setCell ⟨g, 1, none⟩ (.int .i64 x)) g f0 x f2 := by
 obtain ⟨A0, c0, hb, hg, hr0⟩ := h; exact ⟨A0, c0, by simpa using blk_set hb 1 (.int .i64 x), hg, hr0⟩
theorem cellS72_2 {W : World} {g : Nat} {A0 : Option Addr} {c0 : Nat} {f0 : List Int} {f1 f2 : Int} (h : W.heap[g]? = some (.cells #[.slice A0 f0.length c0, .int .i64 f1, .int .i64 f2] 72 (0, 0))) : W.cell? ⟨g, 2, none⟩ = some (.int .i64 f2) := (blk_cell h 2).trans rfl
theorem IsS72.set_2 {w0 W : World} {g : Nat} {f0 : List Int} {f1 f2 : Int} (h : IsS72 w0 W g f0 f1 f2) (x : Int) : IsS72 w0 (W.setCell ⟨g, 2, none⟩ (.int .i64 x)) g f0 f1 x := by
 obtain ⟨A0, c0, hb, hg, hr0⟩ := h; exact ⟨A0, c0, by simpa using blk_set hb 2 (.int .i64 x), hg, hr0⟩
/-! ### spec_l1New: function 29 -/
def spec_l1New.l0 : Nat → List Int → Int → Int → Option (List Int × Int × Int)
 | 0, _, _, _ => none
 | k + 1, x0, x3, x4 => if x4 < (x0.length : Int) then (if x4 < 4000 then (if 0 ≤ x4 then (spec_l1New.l0 k x0 (Go.bits .and .i64 (wrap64 ((wrap64 ((wrap64 (x3 * 131)) + (wrap64 (rd x0 x4)))) + 7)) 1073741823) (wrap64 (x4 + 1))) else (none)) else (some (x0, 0, x3))) else (some (x0, 0, x3))
def spec_l1New.f (k : Nat) (l0 : List Int) : Option (List Int × Int × Int) := spec_l1New.l0 k l0 (wrap64 (26583 + (l0.length : Int))) 0
set_option maxHeartbeats 8000000 in
set_option maxRecDepth 100000 in
theorem spec_l1New.calls (k : Nat) (A0 : Option Addr) (c0 : Nat) (l0 r1 : List Int) (r2 r3 : Int) (w0 w : World) (hB : Below w0.heap.size w0 w) (hr0 : Kd.C (Kd.int .u8) w0 A0 l0.length l0) (hc0 : l0.length ≤ c0) (h : spec_l1New.f k l0 = some (r1, r2, r3)) :
  Calls Try.prog 29 #[.slice A0 l0.length c0] w fun e w' => ∃ g_ : Nat, e = .returned (.pointer (some ⟨g_, 0, none⟩)) ∧ IsS72 w0 w' g_ r1 r2 r3 ∧ Below w0.heap.size w0 w' ∧ Below w.heap.size w w' := by
 have hu72 := Try.underlying72; have HR0 := Aside0.mk hr0; have HC0 := Aside0.mk hc0; clear hr0 hc0; have HBW := Aside0.mk (Below.refl w.heap.size w); have HW0 := Aside0.mk hB.size; have HB := Aside0.mk hB; clear hB; have H := h; unfold spec_l1New.f at H; clear h; have H' := Aside0.mk H; clear H; go_enter Try.func29, Try.ntmps29; go_wp2; go_loopg [3, 4] k (fun kq v3 v4 w' => ∃ (x3_1 : Int) (x4_1 : Int), v3 = .int .i64 x3_1 ∧ v4 = .int .i64 x4_1 ∧ Aside0 (spec_l1New.l0 kq l0 x3_1 x4_1 = some (r1, r2, r3)) ∧ Aside0 (kq ≤ k) ∧ Aside0 (Below w0.heap.size w0 w') ∧ Aside0 (Below w.heap.size w w'))
 case atStart => exact ⟨(wrap64 (26583 + (l0.length : Int))), (0), (by rfl), (by rfl), H', ⟨Nat.le_refl _⟩, ⟨(bl HB)⟩, HBW⟩
 case round =>
  clear H'; obtain ⟨x3_1, x4_1, rfl, rfl, HA, HK1, HB, HBW2⟩ := hrel; clear HBW; have HBW := HBW2; clear HBW2
  cases gk with
  | zero => exact absurd HA.out (by simp [spec_l1New.l0])
  | succ k1 =>
   have H := HA.out; clear HA; simp only [spec_l1New.l0] at H; by_cases c2 : x4_1 < (l0.length : Int); rotate_left
   ·rw [if_neg c2] at H; have c2b0 := decide_eq_false c2; clear c2; replace H := i3 H; obtain ⟨rfl, rfl, rfl⟩ := H; go_wp2_with (((with_reducible refine gate_dst (N := 31) rfl ?_); refine bx 31 #[.slice A0 l0.length c0, .int .i64 0, .int .i64 x3_1] 72 ?_; intro gb103 hg w6 hbox hb; replace HB := bs HB hb; have BK103 := Aside0.mk hbox; have GW103 := Aside0.mk ((by rw [hg]; exact (below_size HBW.out) : w.heap.size ≤ gb103)); have GE103 := Aside0.mk ((Nat.le_trans HW0.out (by rw [hg]; exact (below_size HBW.out) : w.heap.size ≤ gb103) : w0.heap.size ≤ gb103)); replace HBW := Aside0.mk (below_step HBW.out hb); clear hb hbox hg)); go_ret; exact ⟨_, rfl, (show IsS72 w0 _ gb103 l0 0 x3_1 from ⟨_, _, by exact bk BK103, GE103.out, HR0.out⟩), (bg HB GE103), HBW.out⟩
   rw [if_pos c2] at H; have c2b0 := decide_eq_true c2; clear c2; by_cases c3 : x4_1 < 4000
   ·rw [if_pos c3] at H; have c3b0 := decide_eq_true c3; clear c3; obtain ⟨c4, H⟩ := ifn H; have c4b0 := decide_eq_true c4; clear c4; have H' := Aside0.mk H; clear H; have p101 : 0 ≤ (x4_1 : Int) := od; have q101 : x4_1 < (l0.length : Int) := od; obtain ⟨ad101, e101, hx101_0⟩ := Kd.at_int HR0.out x4_1 p101 q101; cases e101; replace hx101_0 := pw_cell_below HB.out hx101_0; replace p101 := eq_true p101; replace q101 := eq_true q101; go_wp2; go_roundg k1
    case measure => have := HK1.out; omega
    case rel => exact ⟨(Go.bits .and .i64 (wrap64 ((wrap64 ((wrap64 (x3_1 * 131)) + (wrap64 (rd l0 x4_1)))) + 7)) 1073741823), (wrap64 (x4_1 + 1)), (by rfl), (by rfl), H', ⟨by have := HK1.out; omega⟩, ⟨(bl HB)⟩, ⟨(bl HBW)⟩⟩
   rw [if_neg c3] at H; have c3b0 := decide_eq_false c3; clear c3; replace H := i3 H; obtain ⟨rfl, rfl, rfl⟩ := H; go_wp2_with (((with_reducible refine gate_dst (N := 31) rfl ?_); refine bx 31 #[.slice A0 l0.length c0, .int .i64 0, .int .i64 x3_1] 72 ?_; intro gb102 hg w5 hbox hb; replace HB := bs HB hb; have BK102 := Aside0.mk hbox; have GW102 := Aside0.mk ((by rw [hg]; exact (below_size HBW.out) : w.heap.size ≤ gb102)); have GE102 := Aside0.mk ((Nat.le_trans HW0.out (by rw [hg]; exact (below_size HBW.out) : w.heap.size ≤ gb102) : w0.heap.size ≤ gb102)); replace HBW := Aside0.mk (below_step HBW.out hb); clear hb hbox hg)); go_ret; exact ⟨_, rfl, (show IsS72 w0 _ gb102 l0 0 x3_1 from ⟨_, _, by exact bk BK102, GE102.out, HR0.out⟩), (bg HB GE102), HBW.out⟩

/-! ### spec_l1Byte: function 56 -/
def spec_l1Byte.f (s0_0 : List Int) (s0_1 : Int) (s0_2 : Int) : Option (Int × Int × Int) := if s0_1 < (s0_0.length : Int) then (if 0 ≤ s0_1 then (some (Go.bits .and .i64 (wrap64 ((Go.bits .and .i64 (Go.bits .xor .i64 ((wrap64 ((wrap64 (s0_2 * 6364136223846793005)) + 1442695040888963407)) / 8589934592) ((wrap64 ((wrap64 (s0_2 * 6364136223846793005)) + 1442695040888963407)) / 35184372088832)) 255) + (wrap64 (rd s0_0 s0_1)))) 255, wrap64 (s0_1 + 1), wrap64 ((wrap64 (s0_2 * 6364136223846793005)) + 1442695040888963407))) else (none)) else (some (Go.bits .and .i64 (Go.bits .xor .i64 ((wrap64 ((wrap64 (s0_2 * 6364136223846793005)) + 1442695040888963407)) / 8589934592) ((wrap64 ((wrap64 (s0_2 * 6364136223846793005)) + 1442695040888963407)) / 35184372088832)) 255, s0_1, wrap64 ((wrap64 (s0_2 * 6364136223846793005)) + 1442695040888963407)))
set_option maxHeartbeats 8000000 in
set_option maxRecDepth 100000 in
theorem spec_l1Byte.calls (g : Nat) (s0_0 : List Int) (s0_1 s0_2 r1 r2 r3 : Int) (w0 w : World) (hI : IsS72 w0 w g s0_0 s0_1 s0_2) (hB : Below w0.heap.size w0 w) (h : spec_l1Byte.f s0_0 s0_1 s0_2 = some (r1, r2, r3)) :
  Calls Try.prog 56 #[.pointer (some ⟨g, 0, none⟩)] w fun e w' => e = .returned (.int .i64 r1) ∧ IsS72 w0 w' g s0_0 r2 r3 ∧ Below w0.heap.size w0 w' ∧ KeepBut w w' g none := by
 have HI0 := Aside0.mk hI; have HK := Aside0.mk (KeepBut.refl w g none); have HL := Aside0.mk hB.size; clear hI; have HW0 := Aside0.mk hB.size; have HB := Aside0.mk hB; clear hB; have H := h; unfold spec_l1Byte.f at H; clear h; by_cases c2 : s0_1 < (s0_0.length : Int); rotate_left
 ·rw [if_neg c2] at H; have c2b0 := decide_eq_false c2; clear c2; replace H := i3 H; obtain ⟨rfl, rfl, rfl⟩ := H; obtain ⟨ASz5_0, cSz5_0, HGz5, hgz5, HSz5_0⟩ := HI0.out; have hcz5_0 := cellS72_0 HGz5; have hcz5_1 := cellS72_1 HGz5; have hcz5_2 := cellS72_2 HGz5; have hfz5_1 := blk_frozen HGz5 1; have hfz5_2 := blk_frozen HGz5 2; clear HGz5 hgz5; go_enter Try.func56, Try.ntmps56; go_wp2; (repeat (go_quiet (fail); go_wp2)); go_ret; exact ⟨by rfl, by repeat (with_reducible first | exact HI0.out | apply IsS72.drewN | apply IsS72.set_2), by repeat (with_reducible first | exact HB.out | apply pw_below_drewN | refine below_set ?_ (IsS72.ge HI0.out)), by repeat (first | (with_reducible first | exact HK.out | apply KeepBut.set_ | apply keep_drewN) | exact HK.out)⟩
 rw [if_pos c2] at H; have c2b0 := decide_eq_true c2; clear c2; obtain ⟨c3, H⟩ := ifn H; have c3b0 := decide_eq_true c3; clear c3; replace H := i3 H; obtain ⟨rfl, rfl, rfl⟩ := H; obtain ⟨ASz4_0, cSz4_0, HGz4, hgz4, HSz4_0⟩ := HI0.out; have hcz4_0 := cellS72_0 HGz4; have hcz4_1 := cellS72_1 HGz4; have hcz4_2 := cellS72_2 HGz4; have hfz4_1 := blk_frozen HGz4 1; have hfz4_2 := blk_frozen HGz4 2; clear HGz4 hgz4; have p104 : 0 ≤ (s0_1 : Int) := od; have q104 : s0_1 < (s0_0.length : Int) := od; obtain ⟨ad104, e104, hx104_0⟩ := Kd.at_int HSz4_0 s0_1 p104 q104; cases e104; have hn104_0 : ad104.block ≠ g := Nat.ne_of_lt (Nat.lt_of_lt_of_le (by have := World.block_lt_of_cell? _ _ hx104_0; rwa [add_block] at this) (IsS72.ge HI0.out)); replace hx104_0 := pw_cell_below HB.out hx104_0; replace hx104_0 := (cell_far (p := ⟨g, 2, none⟩) (by (rw [add_block]; exact hn104_0)) (.int .i64 (wrap64 ((wrap64 (s0_2 * 6364136223846793005)) + 1442695040888963407)))).trans hx104_0; (have hy104_0 := fun (n_ : Nat) => (show (((w.drewN n_).setCell ⟨g, 2, none⟩ (.int .i64 (wrap64 ((wrap64 (s0_2 * 6364136223846793005)) + 1442695040888963407))))).cell? _ = some _ from hx104_0)); clear hn104_0; replace p104 := eq_true p104; replace q104 := eq_true q104; go_enter Try.func56, Try.ntmps56; go_wp2; (repeat (go_quiet (fail); go_wp2)); go_ret; exact ⟨by rfl, by repeat (with_reducible first | exact HI0.out | apply IsS72.drewN | apply IsS72.set_1 | apply IsS72.set_2), by repeat (with_reducible first | exact HB.out | apply pw_below_drewN | refine below_set ?_ (IsS72.ge HI0.out)), by repeat (first | (with_reducible first | exact HK.out | apply KeepBut.set_ | apply keep_drewN) | exact HK.out)⟩

/-! ### spec_l1Below: function 30 -/
def spec_l1Below.f (s0_0 : List Int) (s0_1 : Int) (s0_2 : Int) (a1 : Int) : Option (Int × Int × Int) := if a1 ≤ 0 then (some (0, s0_1, s0_2)) else (if a1 ≤ 256 then ((spec_l1Byte.f s0_0 s0_1 s0_2).bind fun bt105 => (if a1 = 0 then (none) else (some (Int.tmod bt105.1 a1, bt105.2.1, bt105.2.2)))) else ((spec_l1Byte.f s0_0 s0_1 s0_2).bind fun bt108 => ((spec_l1Byte.f s0_0 bt108.2.1 bt108.2.2).bind fun bt111 => ((spec_l1Byte.f s0_0 bt111.2.1 bt111.2.2).bind fun bt114 => ((spec_l1Byte.f s0_0 bt114.2.1 bt114.2.2).bind fun bt117 => (if a1 = 0 then (none) else (some (Int.tmod (wrap64 ((wrap64 ((wrap64 ((wrap64 (bt108.1 * 16777216)) + (wrap64 (bt111.1 * 65536)))) + (wrap64 (bt114.1 * 256)))) + bt117.1)) a1, bt117.2.1, bt117.2.2))))))))
set_option maxHeartbeats 8000000 in
set_option maxRecDepth 100000 in
theorem spec_l1Below.calls (g : Nat) (s0_0 : List Int) (s0_1 s0_2 a1 r1 r2 r3 : Int) (w0 w : World) (hI : IsS72 w0 w g s0_0 s0_1 s0_2) (hB : Below w0.heap.size w0 w) (h : spec_l1Below.f s0_0 s0_1 s0_2 a1 = some (r1, r2, r3)) :
  Calls Try.prog 30 #[.pointer (some ⟨g, 0, none⟩), .int .i64 a1] w fun e w' => e = .returned (.int .i64 r1) ∧ IsS72 w0 w' g s0_0 r2 r3 ∧ Below w0.heap.size w0 w' ∧ KeepBut w w' g none := by
 have HI0 := Aside0.mk hI; have HK := Aside0.mk (KeepBut.refl w g none); have HL := Aside0.mk hB.size; clear hI; have HW0 := Aside0.mk hB.size; have HB := Aside0.mk hB; clear hB; have H := h; unfold spec_l1Below.f at H; clear h; by_cases c3 : a1 ≤ 0
 ·rw [if_pos c3] at H; have c3b0 := decide_eq_true c3; clear c3; replace H := i3 H; obtain ⟨rfl, rfl, rfl⟩ := H; go_enter Try.func30, Try.ntmps30; go_wp2; go_ret; exact ⟨by rfl, HI0.out, HB.out, HK.out⟩
 rw [if_neg c3] at H; have c3b0 := decide_eq_false c3; clear c3; by_cases c4 : a1 ≤ 256
 ·rw [if_pos c4] at H; have c4b0 := decide_eq_true c4; clear c4; replace H := bnd H; obtain ⟨⟨t105, t106, t107⟩, A5, H⟩ := H; dsimp only at H; by_cases c6 : a1 = 0
  ·rw [if_pos c6] at H; exact absurd H (by simp)
  rw [if_neg c6] at H; have c6b0 := nb0 c6; have c6b1 := nb1 c6; replace H := i3 H; obtain ⟨rfl, rfl, rfl⟩ := H; go_enter Try.func30, Try.ntmps30; go_wp2_with (((with_reducible refine gate_callee (f := 56) rfl ?_); refine gM (some 14) Try.func56 rfl (spec_l1Byte.calls g s0_0 s0_1 s0_2 t105 t106 t107 w0 _ HI0.out HB.out A5.out) ?_; rintro w7 ⟨hi, hb, hk⟩; replace HK := kt HK hk; replace HB := Aside0.mk hb; replace HI0 := Aside0.mk hi; clear hb hk hi)); go_ret; exact ⟨by rfl, HI0.out, HB.out, HK.out⟩
 rw [if_neg c4] at H; have c4b0 := decide_eq_false c4; clear c4; replace H := bnd H; obtain ⟨⟨t108, t109, t110⟩, A8, H⟩ := H; dsimp only at H; replace H := bnd H; obtain ⟨⟨t111, t112, t113⟩, A9, H⟩ := H; dsimp only at H; replace H := bnd H; obtain ⟨⟨t114, t115, t116⟩, A10, H⟩ := H; dsimp only at H; replace H := bnd H; obtain ⟨⟨t117, t118, t119⟩, A11, H⟩ := H; dsimp only at H; by_cases c12 : a1 = 0
 ·rw [if_pos c12] at H; exact absurd H (by simp)
 rw [if_neg c12] at H; have c12b0 := nb0 c12; have c12b1 := nb1 c12; replace H := i3 H; obtain ⟨rfl, rfl, rfl⟩ := H; go_enter Try.func30, Try.ntmps30; go_wp2_with (first | ((with_reducible refine gate_callee (f := 56) rfl ?_); refine gM (some 18) Try.func56 rfl (spec_l1Byte.calls g s0_0 s0_1 s0_2 t108 t109 t110 w0 _ HI0.out HB.out A8.out) ?_; rintro w13 ⟨hi, hb, hk⟩; replace HK := kt HK hk; replace HB := Aside0.mk hb; replace HI0 := Aside0.mk hi; clear hb hk hi) | ((with_reducible refine gate_callee (f := 56) rfl ?_); refine gM (some 20) Try.func56 rfl (spec_l1Byte.calls g s0_0 t109 t110 t111 t112 t113 w0 _ HI0.out HB.out A9.out) ?_; rintro w14 ⟨hi, hb, hk⟩; replace HK := kt HK hk; replace HB := Aside0.mk hb; replace HI0 := Aside0.mk hi; clear hb hk hi) | ((with_reducible refine gate_callee (f := 56) rfl ?_); refine gM (some 22) Try.func56 rfl (spec_l1Byte.calls g s0_0 t112 t113 t114 t115 t116 w0 _ HI0.out HB.out A10.out) ?_; rintro w15 ⟨hi, hb, hk⟩; replace HK := kt HK hk; replace HB := Aside0.mk hb; replace HI0 := Aside0.mk hi; clear hb hk hi) | ((with_reducible refine gate_callee (f := 56) rfl ?_); refine gM (some 24) Try.func56 rfl (spec_l1Byte.calls g s0_0 t115 t116 t117 t118 t119 w0 _ HI0.out HB.out A11.out) ?_; rintro w16 ⟨hi, hb, hk⟩; replace HK := kt HK hk; replace HB := Aside0.mk hb; replace HI0 := Aside0.mk hi; clear hb hk hi)); go_ret; exact ⟨by rfl, HI0.out, HB.out, HK.out⟩

/-! ### spec_l1Bit: function 31 -/
def spec_l1Bit.f (a0 : Bool) : Option (Int) := if a0 = true then (some 1) else (some 0)
set_option maxHeartbeats 8000000 in
set_option maxRecDepth 100000 in
theorem spec_l1Bit.calls (a0 : Bool) (r : Int) (w : World) (h : spec_l1Bit.f a0 = some r) :
  Calls Try.prog 31 #[.bool a0] w fun e w' => e = .returned (.int .i64 r) ∧ Drawn0 w w' := by
 have H := h; unfold spec_l1Bit.f at H; clear h; by_cases c2 : a0 = true
 ·subst c2; rw [if_pos rfl] at H; obtain rfl := Option.some.inj H; go_enter Try.func31, Try.ntmps31; go_wp2; go_ret; exact ⟨by rfl, by repeat (exact Drawn0.refl _)⟩
 replace c2 := Bool.eq_false_iff.mpr c2; subst c2; rw [if_neg nf] at H; obtain rfl := Option.some.inj H; go_enter Try.func31, Try.ntmps31; go_wp2; go_ret; exact ⟨by rfl, by repeat (exact Drawn0.refl _)⟩

/-! ### spec_l1Once: function 32 -/
def spec_l1Once.f (s0_0 : List Int) (s0_1 : Int) (s0_2 : Int) (a1 : Int) : Option (Bool × Int × Int) := (spec_l1Below.f s0_0 s0_1 s0_2 a1).bind fun bt120 => (some ((bt120.1 == 0), bt120.2.1, bt120.2.2))
set_option maxHeartbeats 8000000 in
set_option maxRecDepth 100000 in
theorem spec_l1Once.calls (g : Nat) (s0_0 : List Int) (s0_1 s0_2 a1 : Int) (r1 : Bool) (r2 r3 : Int) (w0 w : World) (hI : IsS72 w0 w g s0_0 s0_1 s0_2) (hB : Below w0.heap.size w0 w) (h : spec_l1Once.f s0_0 s0_1 s0_2 a1 = some (r1, r2, r3)) :
  Calls Try.prog 32 #[.pointer (some ⟨g, 0, none⟩), .int .i64 a1] w fun e w' => e = .returned (.bool r1) ∧ IsS72 w0 w' g s0_0 r2 r3 ∧ Below w0.heap.size w0 w' ∧ KeepBut w w' g none := by
 have HI0 := Aside0.mk hI; have HK := Aside0.mk (KeepBut.refl w g none); have HL := Aside0.mk hB.size; clear hI; have HW0 := Aside0.mk hB.size; have HB := Aside0.mk hB; clear hB; have H := h; unfold spec_l1Once.f at H; clear h; replace H := bnd H; obtain ⟨⟨t120, t121, t122⟩, A3, H⟩ := H; dsimp only at H; replace H := i3 H; obtain ⟨rfl, rfl, rfl⟩ := H; go_enter Try.func32, Try.ntmps32; go_wp2_with (((with_reducible refine gate_callee (f := 30) rfl ?_); refine gM (some 7) Try.func30 rfl (spec_l1Below.calls g s0_0 s0_1 s0_2 a1 t120 t121 t122 w0 _ HI0.out HB.out A3.out) ?_; rintro w4 ⟨hi, hb, hk⟩; replace HK := kt HK hk; replace HB := Aside0.mk hb; replace HI0 := Aside0.mk hi; clear hb hk hi)); go_ret; exact ⟨by rfl, HI0.out, HB.out, HK.out⟩

/-! ### spec_DrawEdgeIndex: function 5 -/
def spec_DrawEdgeIndex.f (k : Nat) (l0 : List Int) : Option (Int × Int × Int) := (spec_l1New.f k l0).bind fun bt123 => ((spec_l1Below.f bt123.1 bt123.2.1 bt123.2.2 7).bind fun bt127 => ((spec_l1Below.f bt123.1 bt127.2.1 bt127.2.2 7).bind fun bt130 => ((spec_l1Once.f bt123.1 bt130.2.1 bt130.2.2 12).bind fun bt133 => ((spec_l1Bit.f bt133.1).bind fun t136 => ((spec_l1Below.f bt123.1 bt133.2.1 bt133.2.2 7).bind fun bt137 => (some (wrap64 (2 + bt127.1), wrap64 (bt130.1 - t136), bt137.1)))))))
set_option maxHeartbeats 8000000 in
set_option maxRecDepth 100000 in
theorem spec_DrawEdgeIndex.calls (k : Nat) (A0 : Option Addr) (c0 : Nat) (l0 : List Int) (r1 r2 r3 : Int) (w : World) (hr0 : Kd.C (Kd.int .u8) w A0 l0.length l0) (hc0 : l0.length ≤ c0) (h : spec_DrawEdgeIndex.f k l0 = some (r1, r2, r3)) :
  Calls Try.prog 5 #[.slice A0 l0.length c0] w fun e w' => e = .returned (.tuple #[.int .i64 r1, .int .i64 r2, .int .i64 r3]) ∧ Below w.heap.size w w' := by
 have HR0 := Aside0.mk hr0; have HC0 := Aside0.mk hc0; clear hr0 hc0; have HB := Aside0.mk (Below.refl w.heap.size w); have H := h; unfold spec_DrawEdgeIndex.f at H; clear h; replace H := bnd H; obtain ⟨⟨t123, t124, t125⟩, A2, H⟩ := H; dsimp only at H; replace H := bnd H; obtain ⟨⟨t127, t128, t129⟩, A3, H⟩ := H; dsimp only at H; replace H := bnd H; obtain ⟨⟨t130, t131, t132⟩, A4, H⟩ := H; dsimp only at H; replace H := bnd H; obtain ⟨⟨t133, t134, t135⟩, A5, H⟩ := H; dsimp only at H; obtain ⟨t136, A6, H⟩ := bnd H; replace H := bnd H; obtain ⟨⟨t137, t138, t139⟩, A7, H⟩ := H; dsimp only at H; replace H := i3 H; obtain ⟨rfl, rfl, rfl⟩ := H; go_enter Try.func5, Try.ntmps5; go_wp2_with (first | ((with_reducible refine gate_callee (f := 29) rfl ?_); refine gL (some 7) rfl rfl Try.func29 (by kernel_rfl) rfl #[.slice A0 l0.length c0] rfl ?_; (with_reducible refine (spec_l1New.calls k _ _ l0 t123 t124 t125 w _ HB.out HR0.out HC0.out A2.out).mono ?_); rintro e w8 ⟨g126, rfl, hi, hb, hb2⟩; refine ⟨_, rfl, ?_⟩; replace HB := Aside0.mk hb; have HI126 := Aside0.mk hi; clear hb hb2 hi) | ((with_reducible refine gate_callee (f := 30) rfl ?_); refine gM (some 9) Try.func30 rfl (spec_l1Below.calls g126 t123 t124 t125 7 t127 t128 t129 w _ HI126.out HB.out A3.out) ?_; rintro w9 ⟨hi, hb, hk⟩; replace HB := Aside0.mk hb; replace HI126 := Aside0.mk hi; clear hb hk hi) | ((with_reducible refine gate_callee (f := 30) rfl ?_); refine gM (some 12) Try.func30 rfl (spec_l1Below.calls g126 t123 t128 t129 7 t130 t131 t132 w _ HI126.out HB.out A4.out) ?_; rintro w10 ⟨hi, hb, hk⟩; replace HB := Aside0.mk hb; replace HI126 := Aside0.mk hi; clear hb hk hi) | ((with_reducible refine gate_callee (f := 32) rfl ?_); refine gM (some 14) Try.func32 rfl (spec_l1Once.calls g126 t123 t131 t132 12 t133 t134 t135 w _ HI126.out HB.out A5.out) ?_; rintro w11 ⟨hi, hb, hk⟩; replace HB := Aside0.mk hb; replace HI126 := Aside0.mk hi; clear hb hk hi) | ((with_reducible refine gate_callee (f := 31) rfl ?_); refine gM (some 15) Try.func31 rfl (spec_l1Bit.calls t133 t136 _ A6.out) ?_; rintro w' ⟨nd, rfl⟩) | ((with_reducible refine gate_callee (f := 30) rfl ?_); refine gM (some 18) Try.func30 rfl (spec_l1Below.calls g126 t123 t134 t135 7 t137 t138 t139 w _ ?side1 ?side2 A7.out) ?_; (case side1 => repeat (first | (with_reducible first | exact HI126.out | apply IsS72.drewN) | exact HI126.out)); (case side2 => repeat (first | (with_reducible first | exact HB.out | apply pw_below_drewN) | exact HB.out)); rintro w12 ⟨hi, hb, hk⟩; replace HB := Aside0.mk hb; replace HI126 := Aside0.mk hi; clear hb hk hi)); go_ret3; exact ⟨by rfl, HB.out⟩

/-! ### spec_DrawEdgeAt: function 6 -/
def spec_DrawEdgeAt.f (k : Nat) (l0 : List Int) : Option (Int × Int) := (spec_l1New.f k l0).bind fun bt140 => ((spec_l1Below.f bt140.1 bt140.2.1 bt140.2.2 7).bind fun bt144 => ((spec_l1Below.f bt140.1 bt144.2.1 bt144.2.2 22).bind fun bt147 => (some (wrap64 (2 + bt144.1), wrap64 (bt147.1 - 1)))))
set_option maxHeartbeats 8000000 in
set_option maxRecDepth 100000 in
theorem spec_DrawEdgeAt.calls (k : Nat) (A0 : Option Addr) (c0 : Nat) (l0 : List Int) (r1 r2 : Int) (w : World) (hr0 : Kd.C (Kd.int .u8) w A0 l0.length l0) (hc0 : l0.length ≤ c0) (h : spec_DrawEdgeAt.f k l0 = some (r1, r2)) :
  Calls Try.prog 6 #[.slice A0 l0.length c0] w fun e w' => e = .returned (.tuple #[.int .i64 r1, .int .i64 r2]) ∧ Below w.heap.size w w' := by
 have HR0 := Aside0.mk hr0; have HC0 := Aside0.mk hc0; clear hr0 hc0; have HB := Aside0.mk (Below.refl w.heap.size w); have H := h; unfold spec_DrawEdgeAt.f at H; clear h; replace H := bnd H; obtain ⟨⟨t140, t141, t142⟩, A2, H⟩ := H; dsimp only at H; replace H := bnd H; obtain ⟨⟨t144, t145, t146⟩, A3, H⟩ := H; dsimp only at H; replace H := bnd H; obtain ⟨⟨t147, t148, t149⟩, A4, H⟩ := H; dsimp only at H; replace H := i2 H; obtain ⟨rfl, rfl⟩ := H; go_enter Try.func6, Try.ntmps6; go_wp2_with (first | ((with_reducible refine gate_callee (f := 29) rfl ?_); refine gL (some 6) rfl rfl Try.func29 (by kernel_rfl) rfl #[.slice A0 l0.length c0] rfl ?_; (with_reducible refine (spec_l1New.calls k _ _ l0 t140 t141 t142 w _ HB.out HR0.out HC0.out A2.out).mono ?_); rintro e w5 ⟨g143, rfl, hi, hb, hb2⟩; refine ⟨_, rfl, ?_⟩; replace HB := Aside0.mk hb; have HI143 := Aside0.mk hi; clear hb hb2 hi) | ((with_reducible refine gate_callee (f := 30) rfl ?_); refine gM (some 8) Try.func30 rfl (spec_l1Below.calls g143 t140 t141 t142 7 t144 t145 t146 w _ HI143.out HB.out A3.out) ?_; rintro w6 ⟨hi, hb, hk⟩; replace HB := Aside0.mk hb; replace HI143 := Aside0.mk hi; clear hb hk hi) | ((with_reducible refine gate_callee (f := 30) rfl ?_); refine gM (some 11) Try.func30 rfl (spec_l1Below.calls g143 t140 t145 t146 22 t147 t148 t149 w _ HI143.out HB.out A4.out) ?_; rintro w7 ⟨hi, hb, hk⟩; replace HB := Aside0.mk hb; replace HI143 := Aside0.mk hi; clear hb hk hi)); go_ret2; exact ⟨by rfl, HB.out⟩

/-! ### impl_isCount: function 33 -/
def impl_isCount.f (a0 : Int) : Option (Bool) := if a0 ≥ 3 then (some (decide (a0 ≤ 7))) else (some false)
set_option maxHeartbeats 8000000 in
set_option maxRecDepth 100000 in
theorem impl_isCount.calls (a0 : Int) (r : Bool) (w : World) (h : impl_isCount.f a0 = some r) :
  Calls Try.prog 33 #[.int .i64 a0] w fun e w' => e = .returned (.bool r) ∧ Drawn0 w w' := by
 have H := h; unfold impl_isCount.f at H; clear h; by_cases c2 : a0 ≥ 3
 ·rw [if_pos c2] at H; have c2b0 : decide (3 ≤ a0) = true := decide_eq_true c2; clear c2; obtain rfl := Option.some.inj H; go_enter Try.func33, Try.ntmps33; go_wp2; go_ret; exact ⟨by rfl, by repeat (exact Drawn0.refl _)⟩
 rw [if_neg c2] at H; have c2b0 : decide (3 ≤ a0) = false := decide_eq_false c2; clear c2; obtain rfl := Option.some.inj H; go_enter Try.func33, Try.ntmps33; go_wp2; go_ret; exact ⟨by rfl, by repeat (exact Drawn0.refl _)⟩

/-! ### impl_edgesOf: function 34 -/
mutual
def impl_edgesOf.l0 : Nat → Int → List (S49) → Int → Option ((List (S49)))
 | 0, _, _, _ => none
 | k + 1, x0, x3, x4 => if x4 < x0 then (impl_edgesOf.l1 k x0 x3 x4 (wrap64 (x4 + 1))) else (some x3)
def impl_edgesOf.l1 : Nat → Int → List (S49) → Int → Int → Option ((List (S49)))
 | 0, _, _, _, _ => none
 | k + 1, x0, x3, x4, x5 => if x5 < x0 then (if x3.length < 8796093022208 then (impl_edgesOf.l1 k x0 (x3 ++ [(⟨x4, x5⟩ : S49)]) x4 (wrap64 (x5 + 1))) else (none)) else (impl_edgesOf.l0 k x0 x3 (wrap64 (x4 + 1)))
end
def impl_edgesOf.f (k : Nat) (a0 : Int) : Option ((List (S49))) := impl_edgesOf.l0 k a0 ([] : List (S49)) 0
theorem impl_edgesOf.mono_l  : ∀ k, (∀ y0 y1 y2, LeO (impl_edgesOf.l0 k y0 y1 y2) (impl_edgesOf.l0 (k + 1) y0 y1 y2)) ∧ (∀ y0 y1 y2 y3, LeO (impl_edgesOf.l1 k y0 y1 y2 y3) (impl_edgesOf.l1 (k + 1) y0 y1 y2 y3))
 | 0 => ⟨fun _ _ _ r h => by simp [impl_edgesOf.l0] at h, fun _ _ _ _ r h => by simp [impl_edgesOf.l1] at h⟩
 | k + 1 => by
  obtain ⟨ih0, ih1⟩ := impl_edgesOf.mono_l k; refine ⟨?_, ?_⟩
  ·intro y0 y1 y2; unfold impl_edgesOf.l0; (repeat' first | (with_reducible exact ih1 _ _ _ _) | (with_reducible exact LeO.refl _) | (with_reducible refine LeO.ite ?_ ?_))
  ·intro y0 y1 y2 y3; unfold impl_edgesOf.l1; (repeat' first | (with_reducible exact ih0 _ _ _) | (with_reducible exact ih1 _ _ _ _) | (with_reducible exact LeO.refl _) | (with_reducible refine LeO.ite ?_ ?_))
theorem impl_edgesOf.mono  : ∀ a0 k, LeO (impl_edgesOf.f k a0) (impl_edgesOf.f (k + 1) a0) := by
 intro a0 k; obtain ⟨ih0, ih1⟩ := impl_edgesOf.mono_l k; unfold impl_edgesOf.f; (repeat' with_reducible exact ih0 _ _ _)
set_option maxHeartbeats 8000000 in
set_option maxRecDepth 100000 in
theorem impl_edgesOf.calls (k : Nat) (a0 : Int) (r : List (S49)) (w : World) (h : impl_edgesOf.f k a0 = some r) :
  Calls Try.prog 34 #[.int .i64 a0] w fun e w' => ∃ v0_ : Value, e = .returned (v0_) ∧ Kd.R k49 49 w' w.heap.size (fun _ => True) v0_ r ∧ Below w.heap.size w w' := by
 have hu49 := Try.underlying49; have HB := Aside0.mk (Below.refl w.heap.size w); have H := h; unfold impl_edgesOf.f at H; clear h; have H' := Aside0.mk H; clear H; go_enter Try.func34, Try.ntmps34; go_wp2; go_loopg [3, 4] k (fun kq v3 v4 w' => ∃ (x3_1 : List (S49)) (x4_1 : Int), v4 = .int .i64 x4_1 ∧ Aside0 (impl_edgesOf.l0 kq a0 x3_1 x4_1 = some r) ∧ Aside0 (kq ≤ k) ∧ Aside0 (Kd.R k49 49 w' w.heap.size (fun _ => True) v3 x3_1) ∧ Aside0 (Below w.heap.size w w'))
 case atStart => exact ⟨(([] : List (S49))), (0), (by rfl), H', ⟨Nat.le_refl _⟩, ⟨by exact Kd.R_nil _ _ _ _ _⟩, ⟨(bl HB)⟩⟩
 case round =>
  clear H'; obtain ⟨x3_1, x4_1, rfl, HA, HK1, HO_3, HB⟩ := hrel
  cases gk with
  | zero => exact absurd HA.out (by simp [impl_edgesOf.l0])
  | succ k1 =>
   have H := HA.out; clear HA; simp only [impl_edgesOf.l0] at H; by_cases c2 : x4_1 < a0; rotate_left
   ·rw [if_neg c2] at H; have c2b0 := decide_eq_false c2; clear c2; obtain rfl := Option.some.inj H; go_wp2; go_ret; exact ⟨_, by rfl, by (with_reducible repeat (first | apply Kd.R_alloc | apply Kd.R_drewN | apply Kd.R_drew)); exact HO_3.out, (bl HB)⟩
   rw [if_pos c2] at H; have c2b0 := decide_eq_true c2; clear c2; have H' := Aside0.mk H; clear H; go_wp2; go_loopg [3, 5] k1 (fun kq v3 v5 w' => ∃ (x3_2 : List (S49)) (x5_2 : Int), v5 = .int .i64 x5_2 ∧ Aside0 (impl_edgesOf.l1 kq a0 x3_2 x4_1 x5_2 = some r) ∧ Aside0 (kq ≤ k1) ∧ Aside0 (Kd.R k49 49 w' w.heap.size (fun _ => True) v3 x3_2) ∧ Aside0 (Below w.heap.size w w'))
   case atStart => exact ⟨(x3_1), (wrap64 (x4_1 + 1)), (by rfl), H', ⟨Nat.le_refl _⟩, ⟨rr HO_3⟩, ⟨(bl HB)⟩⟩
   case round =>
    clear H' c2b0; obtain ⟨x3_2, x5_2, rfl, HA, HK2, HO_3, HB⟩ := hrel
    cases gk with
    | zero => exact absurd HA.out (by simp [impl_edgesOf.l1])
    | succ k2 =>
     have H := HA.out; clear HA; simp only [impl_edgesOf.l1] at H; by_cases c3 : x5_2 < a0; rotate_left
     ·rw [if_neg c3] at H; have c3b0 := decide_eq_false c3; clear c3; have H' := Aside0.mk H; clear H; go_wp2; go_roundg k2
      case measure => have := HK1.out; have := HK2.out; omega
      case rel => exact ⟨(x3_2), (wrap64 (x4_1 + 1)), (by rfl), H', ⟨by have := HK1.out; have := HK2.out; omega⟩, ⟨rr HO_3⟩, ⟨(bl HB)⟩⟩
     rw [if_pos c3] at H; have c3b0 := decide_eq_true c3; clear c3; obtain ⟨c4, H⟩ := ifn H; have LMc4 := Aside0.mk c4; clear c4; obtain ⟨y150, Ny150⟩ := nm (x3_2 ++ [(⟨x4_1, x5_2⟩ : S49)] : List (S49)); rw [← Ny150.out] at H; have H' := Aside0.mk H; clear H; go_wp2_with (((with_reducible refine gate_builtin (b := .append) (xs := #[.tmp 18, .tmp 22]) rfl ?_); at_builtin; refine Kd.R_append k49 (w0 := w) w.heap.size rfl (.tmp 18) (.tmp 22) 50 49 (.agg #[(.int .i64 0), (.int .i64 0)]) 16 rfl Try.underlying50 info49 rfl (by decide) (by omega) u3 x3_2 (⟨x4_1, x5_2⟩ : S49) [.int .i64 x4_1, .int .i64 x5_2] (fun _ => True) (fun _ => False) rfl rfl ?aP (fun _ hk => hk.elim) ?aF ?aO ?aB ?aS ?aL ?_; (case aP => exact k49_mkM _ _ _ (⟨x4_1, x5_2⟩ : S49)); (case aB => exact (bl HB)); (case aF => exact (fun _ _ => trivial)); (case aO => exact (rr HO_3)); (case aS => exact (below_size (bl HB))); (case aL => have := LMc4.out; omega); intro v151 w5 ho hb hg hat; rw [← Ny150.out] at ho; replace HB := Aside0.mk hb; have HO152 := Aside0.mk ho; clear HO_3 ho hb hg hat)); go_roundg k2
     case measure => have := HK1.out; have := HK2.out; omega
     case rel => exact ⟨(y150), (wrap64 (x5_2 + 1)), (by rfl), H', ⟨by have := HK1.out; have := HK2.out; omega⟩, ⟨rr HO152⟩, ⟨(bl HB)⟩⟩

/-! ### impl_EdgeAt: function 7 -/
def impl_EdgeAt.f (k : Nat) (a0 : Int) (a1 : Int) : Option (Int × Int) := (impl_isCount.f a0).bind fun t153 => (if t153 = true then (if a1 < 0 then (some ((-1), (-1))) else (if a1 ≥ (wrap64 (Int.tdiv (wrap64 (a0 * (wrap64 (a0 - 1)))) 2)) then (some ((-1), (-1))) else ((impl_edgesOf.f k a0).bind fun t154 => (if 0 ≤ a1 then (if a1 < (t154.length : Int) then (some ((rd_T49 t154 a1).f0, (rd_T49 t154 a1).f1)) else (none)) else (none))))) else (some ((-1), (-1))))
theorem impl_EdgeAt.mono  : ∀ a0 a1 k, LeO (impl_EdgeAt.f k a0 a1) (impl_EdgeAt.f (k + 1) a0 a1) := by
 intro a0 a1 k; unfold impl_EdgeAt.f; (repeat' first | (with_reducible exact impl_edgesOf.mono _ _) | (with_reducible exact LeO.refl _) | (with_reducible refine LeO.ite ?_ ?_) | (with_reducible refine LeO.bind ?_ (fun _ => ?_)))
set_option maxHeartbeats 8000000 in
set_option maxRecDepth 100000 in
theorem impl_EdgeAt.calls (k : Nat) (a0 a1 r1 r2 : Int) (w : World) (h : impl_EdgeAt.f k a0 a1 = some (r1, r2)) :
  Calls Try.prog 7 #[.int .i64 a0, .int .i64 a1] w fun e w' => e = .returned (.tuple #[.int .i64 r1, .int .i64 r2]) ∧ Below w.heap.size w w' := by
 have hu49 := Try.underlying49; have HB := Aside0.mk (Below.refl w.heap.size w); have H := h; unfold impl_EdgeAt.f at H; clear h; obtain ⟨t153, A3, H⟩ := bnd H; by_cases c4 : t153 = true; rotate_left
 ·replace c4 := Bool.eq_false_iff.mpr c4; subst c4; rw [if_neg nf] at H; replace H := i2 H; obtain ⟨rfl, rfl⟩ := H; go_enter Try.func7, Try.ntmps7; go_wp2_with ((go_at_call 33; (with_reducible refine (impl_isCount.calls a0 false _ A3.out).mono ?_); rintro e w' ⟨rfl, ⟨nd, rfl⟩⟩)); (repeat (go_quiet (first | (go_at_call 33; (with_reducible refine (impl_isCount.calls a0 false _ A3.out).mono ?_); rintro e w' ⟨rfl, ⟨nd, rfl⟩⟩)))); go_ret2; exact ⟨by rfl, (bl HB)⟩
 subst c4; rw [if_pos rfl] at H; by_cases c5 : a1 < 0
 ·rw [if_pos c5] at H; have c5b0 := decide_eq_true c5; clear c5; replace H := i2 H; obtain ⟨rfl, rfl⟩ := H; go_enter Try.func7, Try.ntmps7; go_wp2_with ((go_at_call 33; (with_reducible refine (impl_isCount.calls a0 true _ A3.out).mono ?_); rintro e w' ⟨rfl, ⟨nd, rfl⟩⟩)); (repeat (go_quiet (first | (go_at_call 33; (with_reducible refine (impl_isCount.calls a0 true _ A3.out).mono ?_); rintro e w' ⟨rfl, ⟨nd, rfl⟩⟩)))); go_ret2; exact ⟨by rfl, (bl HB)⟩
 rw [if_neg c5] at H; have c5b0 := decide_eq_false c5; clear c5; by_cases c6 : a1 ≥ (wrap64 (Int.tdiv (wrap64 (a0 * (wrap64 (a0 - 1)))) 2))
 ·rw [if_pos c6] at H; have c6b0 : decide ((wrap64 (Int.tdiv (wrap64 (a0 * (wrap64 (a0 - 1)))) 2)) ≤ a1) = true := decide_eq_true c6; clear c6; replace H := i2 H; obtain ⟨rfl, rfl⟩ := H; go_enter Try.func7, Try.ntmps7; go_wp2_with ((go_at_call 33; (with_reducible refine (impl_isCount.calls a0 true _ A3.out).mono ?_); rintro e w' ⟨rfl, ⟨nd, rfl⟩⟩)); (repeat (go_quiet (first | (go_at_call 33; (with_reducible refine (impl_isCount.calls a0 true _ A3.out).mono ?_); rintro e w' ⟨rfl, ⟨nd, rfl⟩⟩)))); go_ret2; exact ⟨by rfl, (bl HB)⟩
 rw [if_neg c6] at H; have c6b0 : decide ((wrap64 (Int.tdiv (wrap64 (a0 * (wrap64 (a0 - 1)))) 2)) ≤ a1) = false := decide_eq_false c6; clear c6; obtain ⟨t154, A7, H⟩ := bnd H; obtain ⟨c8, H⟩ := ifn H; have c8b0 := decide_eq_true c8; clear c8; obtain ⟨c9, H⟩ := ifn H; have c9b0 := decide_eq_true c9; clear c9; replace H := i2 H; obtain ⟨rfl, rfl⟩ := H; go_enter Try.func7, Try.ntmps7; go_wp2_with (first | (go_at_call 33; (with_reducible refine (impl_isCount.calls a0 true _ A3.out).mono ?_); rintro e w' ⟨rfl, ⟨nd, rfl⟩⟩) | (go_at_call 34; (with_reducible refine (impl_edgesOf.calls k a0 t154 _ A7.out).mono ?_); rintro e w10 ⟨v155, rfl, ho0, hb⟩; have HO156 := Aside0.mk (Kd.R_lower ho0 (below_size (bl HB))); replace HB := bs HB hb; clear hb ho0; obtain ⟨Ao11, co11, eo11⟩ := Kd.R_slice HO156.out; subst eo11; have p157 : 0 ≤ (a1 : Int) := od; have q157 : a1 < (t154.length : Int) := od; obtain ⟨ad157, e157, hx157_0, hx157_1⟩ := at_T49 (Kd.R_reads' HO156.out).2.2 a1 p157 q157; cases e157; replace p157 := eq_true p157; replace q157 := eq_true q157) | ((with_reducible refine gate_dst (N := 6) rfl ?_); refine bx 6 #[.int .i64 0, .int .i64 0] 49 ?_; intro gb158 hg w12 hbox hb; replace HO156 := Aside0.mk (Kd.R_below (Kd.R_elderB (rr HO156) gb158 (Nat.le_of_eq hg.symm)) hb); have BK158 := Aside0.mk hbox; have GW158 := Aside0.mk ((by rw [hg]; exact (below_size (bl HB)) : w.heap.size ≤ gb158)); have GE158 := Aside0.mk ((by rw [hg]; exact (below_size (bl HB)) : w.heap.size ≤ gb158)); replace HB := bs HB hb; clear hb hbox hg; have hcz13_0 := bc BK158 0; have hcz13_1 := bc BK158 1; have hfz13_0 := bf BK158 0; have hfz13_1 := bf BK158 1)); (repeat (go_quiet (first | (go_at_call 33; (with_reducible refine (impl_isCount.calls a0 true _ A3.out).mono ?_); rintro e w' ⟨rfl, ⟨nd, rfl⟩⟩) | (go_at_call 34; (with_reducible refine (impl_edgesOf.calls k a0 t154 _ A7.out).mono ?_); rintro e w10 ⟨v155, rfl, ho0, hb⟩; have HO156 := Aside0.mk (Kd.R_lower ho0 (below_size (bl HB))); replace HB := bs HB hb; obtain ⟨Ao11, co11, eo11⟩ := Kd.R_slice HO156.out; subst eo11; have p157 : 0 ≤ (a1 : Int) := od; have q157 : a1 < (t154.length : Int) := od; obtain ⟨ad157, e157, hx157_0, hx157_1⟩ := at_T49 (Kd.R_reads' HO156.out).2.2 a1 p157 q157; cases e157; replace p157 := eq_true p157; replace q157 := eq_true q157) | ((with_reducible refine gate_dst (N := 6) rfl ?_); refine bx 6 #[.int .i64 0, .int .i64 0] 49 ?_; intro gb158 hg w12 hbox hb; replace HO156 := Aside0.mk (Kd.R_below (Kd.R_elderB (rr HO156) gb158 (Nat.le_of_eq hg.symm)) hb); have BK158 := Aside0.mk hbox; have GW158 := Aside0.mk ((by rw [hg]; exact (below_size (bl HB)) : w.heap.size ≤ gb158)); have GE158 := Aside0.mk ((by rw [hg]; exact (below_size (bl HB)) : w.heap.size ≤ gb158)); replace HB := bs HB hb; clear hb hbox hg; have hcz13_0 := bc BK158 0; have hcz13_1 := bc BK158 1; have hfz13_0 := bf BK158 0; have hfz13_1 := bf BK158 1)); go_wp2_with (first | (go_at_call 33; (with_reducible refine (impl_isCount.calls a0 true _ A3.out).mono ?_); rintro e w' ⟨rfl, ⟨nd, rfl⟩⟩) | (go_at_call 34; (with_reducible refine (impl_edgesOf.calls k a0 t154 _ A7.out).mono ?_); rintro e w10 ⟨v155, rfl, ho0, hb⟩; have HO156 := Aside0.mk (Kd.R_lower ho0 (below_size (bl HB))); replace HB := bs HB hb; obtain ⟨Ao11, co11, eo11⟩ := Kd.R_slice HO156.out; subst eo11; have p157 : 0 ≤ (a1 : Int) := od; have q157 : a1 < (t154.length : Int) := od; obtain ⟨ad157, e157, hx157_0, hx157_1⟩ := at_T49 (Kd.R_reads' HO156.out).2.2 a1 p157 q157; cases e157; replace p157 := eq_true p157; replace q157 := eq_true q157) | ((with_reducible refine gate_dst (N := 6) rfl ?_); refine bx 6 #[.int .i64 0, .int .i64 0] 49 ?_; intro gb158 hg w12 hbox hb; replace HO156 := Aside0.mk (Kd.R_below (Kd.R_elderB (rr HO156) gb158 (Nat.le_of_eq hg.symm)) hb); have BK158 := Aside0.mk hbox; have GW158 := Aside0.mk ((by rw [hg]; exact (below_size (bl HB)) : w.heap.size ≤ gb158)); have GE158 := Aside0.mk ((by rw [hg]; exact (below_size (bl HB)) : w.heap.size ≤ gb158)); replace HB := bs HB hb; clear hb hbox hg; have hcz13_0 := bc BK158 0; have hcz13_1 := bc BK158 1; have hfz13_0 := bf BK158 0; have hfz13_1 := bf BK158 1)))); go_ret2; exact ⟨by rfl, (bg HB GE158)⟩

/-! ### spec_l1In: function 35 -/
def spec_l1In.f (a0 : Int) (a1 : Int) (a2 : Int) : Option (Bool) := if a0 ≥ a1 then (some (decide (a0 ≤ a2))) else (some false)
set_option maxHeartbeats 8000000 in
set_option maxRecDepth 100000 in
theorem spec_l1In.calls (a0 a1 a2 : Int) (r : Bool) (w : World) (h : spec_l1In.f a0 a1 a2 = some r) :
  Calls Try.prog 35 #[.int .i64 a0, .int .i64 a1, .int .i64 a2] w fun e w' => e = .returned (.bool r) ∧ Drawn0 w w' := by
 have H := h; unfold spec_l1In.f at H; clear h; by_cases c4 : a0 ≥ a1
 ·rw [if_pos c4] at H; have c4b0 : decide (a1 ≤ a0) = true := decide_eq_true c4; clear c4; obtain rfl := Option.some.inj H; go_enter Try.func35, Try.ntmps35; go_wp2; go_ret; exact ⟨by rfl, by repeat (exact Drawn0.refl _)⟩
 rw [if_neg c4] at H; have c4b0 : decide (a1 ≤ a0) = false := decide_eq_false c4; clear c4; obtain rfl := Option.some.inj H; go_enter Try.func35, Try.ntmps35; go_wp2; go_ret; exact ⟨by rfl, by repeat (exact Drawn0.refl _)⟩

/-! ### spec_l9Index: function 36 -/
mutual
def spec_l9Index.j0 : Nat → Int → Int → Int → Option (Int)
 | 0, _, _, _ => none
 | k + 1, x0, x1, x2 => spec_l9Index.l0 k x0 x1 x2 0 0
def spec_l9Index.l0 : Nat → Int → Int → Int → Int → Int → Option (Int)
 | 0, _, _, _, _, _ => none
 | k + 1, x0, x1, x2, x8, x9 => if x9 < x1 then (spec_l9Index.l0 k x0 x1 x2 (wrap64 ((wrap64 ((wrap64 (x8 + x0)) - 1)) - x9)) (wrap64 (x9 + 1))) else (some (wrap64 ((wrap64 ((wrap64 (x8 + x2)) - x1)) - 1)))
end
def spec_l9Index.f (k : Nat) (a0 : Int) (a1 : Int) (a2 : Int) : Option (Int) := if a1 > a2 then (spec_l9Index.j0 k a0 a2 a1) else (spec_l9Index.j0 k a0 a1 a2)
theorem spec_l9Index.mono_l  : ∀ k, (∀ y0 y1 y2, LeO (spec_l9Index.j0 k y0 y1 y2) (spec_l9Index.j0 (k + 1) y0 y1 y2)) ∧ (∀ y0 y1 y2 y3 y4, LeO (spec_l9Index.l0 k y0 y1 y2 y3 y4) (spec_l9Index.l0 (k + 1) y0 y1 y2 y3 y4))
 | 0 => ⟨fun _ _ _ r h => by simp [spec_l9Index.j0] at h, fun _ _ _ _ _ r h => by simp [spec_l9Index.l0] at h⟩
 | k + 1 => by
  obtain ⟨ih0, ih1⟩ := spec_l9Index.mono_l k; refine ⟨?_, ?_⟩
  ·intro y0 y1 y2; unfold spec_l9Index.j0; (repeat' with_reducible exact ih1 _ _ _ _ _)
  ·intro y0 y1 y2 y3 y4; unfold spec_l9Index.l0; (repeat' first | (with_reducible exact ih1 _ _ _ _ _) | (with_reducible exact LeO.refl _) | (with_reducible refine LeO.ite ?_ ?_))
theorem spec_l9Index.mono  : ∀ a0 a1 a2 k, LeO (spec_l9Index.f k a0 a1 a2) (spec_l9Index.f (k + 1) a0 a1 a2) := by
 intro a0 a1 a2 k; obtain ⟨ih0, ih1⟩ := spec_l9Index.mono_l k; unfold spec_l9Index.f; (repeat' first | (with_reducible exact ih0 _ _ _) | (with_reducible refine LeO.ite ?_ ?_))
set_option maxHeartbeats 8000000 in
set_option maxRecDepth 100000 in
theorem spec_l9Index.calls (k : Nat) (a0 a1 a2 r : Int) (w : World) (h : spec_l9Index.f k a0 a1 a2 = some r) :
  Calls Try.prog 36 #[.int .i64 a0, .int .i64 a1, .int .i64 a2] w fun e w' => e = .returned (.int .i64 r) ∧ Drawn0 w w' := by
 have H := h; unfold spec_l9Index.f at H; clear h; have HC4 := Aside0.mk H; clear H; go_enter Try.func36, Try.ntmps36; go_upto_if 12 with (fail); go_cut [1, 2] (fun v1 v2 wc => ∃ (kq : Nat) (x1_3 : Int) (x2_3 : Int), v1 = .int .i64 x1_3 ∧ v2 = .int .i64 x2_3 ∧ Aside0 (spec_l9Index.j0 kq a0 x1_3 x2_3 = some r) ∧ Aside0 (kq ≤ k) ∧ Drawn0 w wc)
 case first =>
  have H := HC4.out; clear HC4; by_cases c5 : a1 > a2
  ·rw [if_pos c5] at H; have c5b0 : decide (a2 < a1) = true := decide_eq_true c5; clear c5; (rw [c5b0]); have H' := Aside0.mk H; clear H; go_wp2; go_meet
   case rel => exact ⟨_, (a2), (a1), (by rfl), (by rfl), H', ⟨by omega⟩, by repeat (exact Drawn0.refl _)⟩
  rw [if_neg c5] at H; have c5b0 : decide (a2 < a1) = false := decide_eq_false c5; clear c5; (rw [c5b0]); have H' := Aside0.mk H; clear H; go_wp2; go_meet
  case rel => exact ⟨_, (a1), (a2), (by rfl), (by rfl), H', ⟨by omega⟩, by repeat (exact Drawn0.refl _)⟩
 case rest =>
  clear HC4; obtain ⟨kq, x1_3, x2_3, rfl, rfl, HA, HJ3, ⟨mc3, rfl⟩⟩ := hcut
  cases kq with
  | zero => exact absurd HA.out (by simp [spec_l9Index.j0])
  | succ kj3 =>
   have H := HA.out; clear HA; simp only [spec_l9Index.j0] at H; have H' := Aside0.mk H; clear H; go_wp2; go_loopg [8, 9] kj3 (fun kq v8 v9 w' => ∃ (x8_2 : Int) (x9_2 : Int), v8 = .int .i64 x8_2 ∧ v9 = .int .i64 x9_2 ∧ Aside0 (spec_l9Index.l0 kq a0 x1_3 x2_3 x8_2 x9_2 = some r) ∧ Aside0 (kq ≤ kj3) ∧ Drawn0 w w')
   case atStart => exact ⟨(0), (0), (by rfl), (by rfl), H', ⟨Nat.le_refl _⟩, by repeat (first | exact Drawn0.refl _ | apply Drawn0.step)⟩
   case round =>
    clear H'; obtain ⟨x8_2, x9_2, rfl, rfl, HA, HK2, ⟨m2, rfl⟩⟩ := hrel
    cases gk with
    | zero => exact absurd HA.out (by simp [spec_l9Index.l0])
    | succ k2 =>
     have H := HA.out; clear HA; simp only [spec_l9Index.l0] at H; by_cases c6 : x9_2 < x1_3; rotate_left
     ·rw [if_neg c6] at H; have c6b0 := decide_eq_false c6; clear c6; obtain rfl := Option.some.inj H; go_wp2; go_ret; exact ⟨by rfl, by repeat (first | exact Drawn0.refl _ | apply Drawn0.step)⟩
     rw [if_pos c6] at H; have c6b0 := decide_eq_true c6; clear c6; have H' := Aside0.mk H; clear H; go_wp2; go_roundg k2
     case measure => have := HJ3.out; have := HK2.out; omega
     case rel => exact ⟨(wrap64 ((wrap64 ((wrap64 (x8_2 + a0)) - 1)) - x9_2)), (wrap64 (x9_2 + 1)), (by rfl), (by rfl), H', ⟨by have := HJ3.out; have := HK2.out; omega⟩, by repeat (first | exact Drawn0.refl _ | apply Drawn0.step)⟩

/-! ### spec_EdgeAt: function 8 -/
mutual
def spec_EdgeAt.l0 : Nat → Int → Int → Int → Option (Int × Int)
 | 0, _, _, _ => none
 | k + 1, x0, x1, x6 => if x6 < x0 then (spec_EdgeAt.l1 k x0 x1 x6 (wrap64 (x6 + 1))) else (some ((-1), (-1)))
def spec_EdgeAt.l1 : Nat → Int → Int → Int → Int → Option (Int × Int)
 | 0, _, _, _, _ => none
 | k + 1, x0, x1, x6, x7 => if x7 < x0 then ((spec_l9Index.f k x0 x6 x7).bind fun t160 => (if t160 = x1 then (some (x6, x7)) else (spec_EdgeAt.l1 k x0 x1 x6 (wrap64 (x7 + 1))))) else (spec_EdgeAt.l0 k x0 x1 (wrap64 (x6 + 1)))
end
def spec_EdgeAt.f (k : Nat) (a0 : Int) (a1 : Int) : Option (Int × Int) := (spec_l1In.f a0 3 7).bind fun t159 => (if t159 = true then (spec_EdgeAt.l0 k a0 a1 0) else (some ((-1), (-1))))
theorem spec_EdgeAt.mono_l  : ∀ k, (∀ y0 y1 y2, LeO (spec_EdgeAt.l0 k y0 y1 y2) (spec_EdgeAt.l0 (k + 1) y0 y1 y2)) ∧ (∀ y0 y1 y2 y3, LeO (spec_EdgeAt.l1 k y0 y1 y2 y3) (spec_EdgeAt.l1 (k + 1) y0 y1 y2 y3))
 | 0 => ⟨fun _ _ _ r h => by simp [spec_EdgeAt.l0] at h, fun _ _ _ _ r h => by simp [spec_EdgeAt.l1] at h⟩
 | k + 1 => by
  obtain ⟨ih0, ih1⟩ := spec_EdgeAt.mono_l k; refine ⟨?_, ?_⟩
  ·intro y0 y1 y2; unfold spec_EdgeAt.l0; (repeat' first | (with_reducible exact ih1 _ _ _ _) | (with_reducible exact LeO.refl _) | (with_reducible refine LeO.ite ?_ ?_))
  ·intro y0 y1 y2 y3; unfold spec_EdgeAt.l1; (repeat' first | (with_reducible exact ih0 _ _ _) | (with_reducible exact ih1 _ _ _ _) | (with_reducible exact spec_l9Index.mono _ _ _ _) | (with_reducible exact LeO.refl _) | (with_reducible refine LeO.ite ?_ ?_) | (with_reducible refine LeO.bind ?_ (fun _ => ?_)))
theorem spec_EdgeAt.mono  : ∀ a0 a1 k, LeO (spec_EdgeAt.f k a0 a1) (spec_EdgeAt.f (k + 1) a0 a1) := by
 intro a0 a1 k; obtain ⟨ih0, ih1⟩ := spec_EdgeAt.mono_l k; unfold spec_EdgeAt.f; (repeat' first | (with_reducible exact ih0 _ _ _) | (with_reducible exact LeO.refl _) | (with_reducible refine LeO.ite ?_ ?_) | (with_reducible refine LeO.bind ?_ (fun _ => ?_)))
set_option maxHeartbeats 8000000 in
set_option maxRecDepth 100000 in
theorem spec_EdgeAt.calls (k : Nat) (a0 a1 r1 r2 : Int) (w : World) (h : spec_EdgeAt.f k a0 a1 = some (r1, r2)) :
  Calls Try.prog 8 #[.int .i64 a0, .int .i64 a1] w fun e w' => e = .returned (.tuple #[.int .i64 r1, .int .i64 r2]) ∧ Drawn0 w w' := by
 have H := h; unfold spec_EdgeAt.f at H; clear h; obtain ⟨t159, A3, H⟩ := bnd H; by_cases c4 : t159 = true; rotate_left
 ·replace c4 := Bool.eq_false_iff.mpr c4; subst c4; rw [if_neg nf] at H; replace H := i2 H; obtain ⟨rfl, rfl⟩ := H; go_enter Try.func8, Try.ntmps8; go_wp2_with (((with_reducible refine gate_callee (f := 35) rfl ?_); refine gM (some 9) Try.func35 rfl (spec_l1In.calls a0 3 7 false _ A3.out) ?_; rintro w' ⟨nd, rfl⟩)); go_ret2; exact ⟨by rfl, by repeat (first | exact Drawn0.refl _ | apply Drawn0.step)⟩
 subst c4; rw [if_pos rfl] at H; have H' := Aside0.mk H; clear H; go_enter Try.func8, Try.ntmps8; go_wp2_with (((with_reducible refine gate_callee (f := 35) rfl ?_); refine gM (some 9) Try.func35 rfl (spec_l1In.calls a0 3 7 true _ A3.out) ?_; rintro w' ⟨nd, rfl⟩)); go_loopg [6] k (fun kq v6 w' => ∃ (x6_1 : Int), v6 = .int .i64 x6_1 ∧ Aside0 (spec_EdgeAt.l0 kq a0 a1 x6_1 = some (r1, r2)) ∧ Aside0 (kq ≤ k) ∧ Drawn0 w w')
 case atStart => exact ⟨(0), (by rfl), H', ⟨Nat.le_refl _⟩, by repeat (first | exact Drawn0.refl _ | apply Drawn0.step)⟩
 case round =>
  clear H'; obtain ⟨x6_1, rfl, HA, HK1, ⟨m1, rfl⟩⟩ := hrel
  cases gk with
  | zero => exact absurd HA.out (by simp [spec_EdgeAt.l0])
  | succ k1 =>
   have H := HA.out; clear HA; simp only [spec_EdgeAt.l0] at H; by_cases c5 : x6_1 < a0; rotate_left
   ·rw [if_neg c5] at H; have c5b0 := decide_eq_false c5; clear c5; replace H := i2 H; obtain ⟨rfl, rfl⟩ := H; go_wp2; go_ret2; exact ⟨by rfl, by repeat (first | exact Drawn0.refl _ | apply Drawn0.step)⟩
   rw [if_pos c5] at H; have c5b0 := decide_eq_true c5; clear c5; have H' := Aside0.mk H; clear H; go_wp2; go_loopg [7] k1 (fun kq v7 w' => ∃ (x7_2 : Int), v7 = .int .i64 x7_2 ∧ Aside0 (spec_EdgeAt.l1 kq a0 a1 x6_1 x7_2 = some (r1, r2)) ∧ Aside0 (kq ≤ k1) ∧ Drawn0 w w')
   case atStart => exact ⟨(wrap64 (x6_1 + 1)), (by rfl), H', ⟨Nat.le_refl _⟩, by repeat (first | exact Drawn0.refl _ | apply Drawn0.step)⟩
   case round =>
    clear H' c5b0; obtain ⟨x7_2, rfl, HA, HK2, ⟨m2, rfl⟩⟩ := hrel
    cases gk with
    | zero => exact absurd HA.out (by simp [spec_EdgeAt.l1])
    | succ k2 =>
     have H := HA.out; clear HA; simp only [spec_EdgeAt.l1] at H; by_cases c6 : x7_2 < a0; rotate_left
     ·rw [if_neg c6] at H; have c6b0 := decide_eq_false c6; clear c6; have H' := Aside0.mk H; clear H; go_wp2; go_roundg k2
      case measure => have := HK1.out; have := HK2.out; omega
      case rel => exact ⟨(wrap64 (x6_1 + 1)), (by rfl), H', ⟨by have := HK1.out; have := HK2.out; omega⟩, by repeat (first | exact Drawn0.refl _ | apply Drawn0.step)⟩
     rw [if_pos c6] at H; have c6b0 := decide_eq_true c6; clear c6; obtain ⟨t160, A7, H⟩ := bnd H; by_cases c8 : t160 = a1
     ·rw [if_pos c8] at H; have c8b0 := eb0 c8; have c8b1 := eb1 c8; clear c8; replace H := i2 H; obtain ⟨rfl, rfl⟩ := H; go_wp2_with (((with_reducible refine gate_callee (f := 36) rfl ?_); refine gM (some 26) Try.func36 rfl (spec_l9Index.calls k2 a0 x6_1 x7_2 t160 _ A7.out) ?_; rintro w' ⟨nd, rfl⟩)); go_ret2; exact ⟨by rfl, by repeat (first | exact Drawn0.refl _ | apply Drawn0.step)⟩
     rw [if_neg c8] at H; have c8b0 := nb0 c8; have c8b1 := nb1 c8; have H' := Aside0.mk H; clear H; go_wp2_with (((with_reducible refine gate_callee (f := 36) rfl ?_); refine gM (some 26) Try.func36 rfl (spec_l9Index.calls k2 a0 x6_1 x7_2 t160 _ A7.out) ?_; rintro w' ⟨nd, rfl⟩)); go_roundg k2
     case measure => have := HK1.out; have := HK2.out; omega
     case rel => exact ⟨(wrap64 (x7_2 + 1)), (by rfl), H', ⟨by have := HK1.out; have := HK2.out; omega⟩, by repeat (first | exact Drawn0.refl _ | apply Drawn0.step)⟩

/-! ### spec_AreSigns: function 71 -/
mutual
def spec_AreSigns.j0 : Nat → Bool → Int → ByteArray → Option (Bool)
 | 0, _, _, _ => none
 | k + 1, x24, x162000, x162001 => if x24 = true then (some false) else (spec_AreSigns.l0 k 0 x162000 x162001)
def spec_AreSigns.l0 : Nat → Int → Int → ByteArray → Option (Bool)
 | 0, _, _, _ => none
 | k + 1, x3, x162000, x162001 => if x3 < (x162001.size : Int) then (if 0 ≤ x3 then (if (bt x162001 x3) = 43 then (spec_AreSigns.l0 k (wrap64 (x3 + 1)) x162000 x162001) else (if (bt x162001 x3) = 45 then (spec_AreSigns.l0 k (wrap64 (x3 + 1)) x162000 x162001) else (some false))) else (none)) else (some true)
end
def spec_AreSigns.f (k : Nat) (a0_0 : Int) (a0_1 : ByteArray) : Option (Bool) := (spec_l1In.f a0_0 3 7).bind fun t162 => (if t162 = true then (spec_AreSigns.j0 k ((a0_1.size : Int) != (wrap64 (Int.tdiv (wrap64 ((wrap64 (a0_0 * (wrap64 (a0_0 - 1)))) * (wrap64 (a0_0 - 2)))) 6))) a0_0 a0_1) else (spec_AreSigns.j0 k true a0_0 a0_1))
set_option maxHeartbeats 8000000 in
set_option maxRecDepth 100000 in
theorem spec_AreSigns.calls (k : Nat) (a0_0 : Int) (a0_1 : ByteArray) (r : Bool) (w : World) (h : spec_AreSigns.f k a0_0 a0_1 = some r) :
  Calls Try.prog 71 #[.agg #[.int .i64 a0_0, .string a0_1]] w fun e w' => e = .returned (.bool r) ∧ Below w.heap.size w w' := by
 have hu30 := Try.underlying30; have HB := Aside0.mk (Below.refl w.heap.size w); have H := h; unfold spec_AreSigns.f at H; clear h; have HC2 := Aside0.mk H; clear H; go_enter Try.func71, Try.ntmps71; go_upto_region 1 with (((with_reducible refine gate_dst (N := 1) rfl ?_); ((refine gate_guard (by rfl) ?_; dsimp only)); refine bx 1 #[.int .i64 a0_0, .string a0_1] 30 ?_; intro gb161 hg w3 hbox hb; have BK161 := Aside0.mk hbox; have GE161 := gs HB hg; have GW161 := GE161; replace HB := bs HB hb; clear hb hbox hg)); go_cut [24] (fun v24 wc => ∃ (kq : Nat) (x24_1 : Bool), v24 = .bool x24_1 ∧ Aside0 (spec_AreSigns.j0 kq x24_1 a0_0 a0_1 = some r) ∧ Aside0 (kq ≤ k) ∧ Aside0 (wc.heap[gb161]? = some (.cells #[.int .i64 a0_0, .string a0_1] 30 (0, 0))) ∧ Aside0 (Below w.heap.size w wc))
 case first =>
  have H := HC2.out; clear HC2; obtain ⟨t162, A4, H⟩ := bnd H; by_cases c5 : t162 = true; rotate_left
  ·replace c5 := Bool.eq_false_iff.mpr c5; subst c5; rw [if_neg nf] at H; have H' := Aside0.mk H; clear H; have hcz7_0 := bc BK161 0; have hcz7_1 := bc BK161 1; go_wp2_with (((with_reducible refine gate_callee (f := 35) rfl ?_); refine gM (some 6) Try.func35 rfl (spec_l1In.calls a0_0 3 7 false _ A4.out) ?_; rintro w' ⟨nd, rfl⟩)); go_meet
   case rel => exact ⟨_, (true), (by rfl), H', ⟨by omega⟩, ⟨by (with_reducible repeat (refine blk_drewN ?_ _)); exact BK161.out⟩, ⟨(bg HB GE161)⟩⟩
  subst c5; rw [if_pos rfl] at H; have H' := Aside0.mk H; clear H; have hcz6_0 := bc BK161 0; have hcz6_1 := bc BK161 1; go_wp2_with (((with_reducible refine gate_callee (f := 35) rfl ?_); refine gM (some 6) Try.func35 rfl (spec_l1In.calls a0_0 3 7 true _ A4.out) ?_; rintro w' ⟨nd, rfl⟩)); go_meet
  case rel => exact ⟨_, (((a0_1.size : Int) != (wrap64 (Int.tdiv (wrap64 ((wrap64 (a0_0 * (wrap64 (a0_0 - 1)))) * (wrap64 (a0_0 - 2)))) 6)))), (by rfl), H', ⟨by omega⟩, ⟨by (with_reducible repeat (refine blk_drewN ?_ _)); exact BK161.out⟩, ⟨(bg HB GE161)⟩⟩
 case rest =>
  clear HC2; obtain ⟨kq, x24_1, rfl, HA, HJ1, BK161, HB⟩ := hcut
  cases kq with
  | zero => exact absurd HA.out (by simp [spec_AreSigns.j0])
  | succ kj1 =>
   have H := HA.out; clear HA; simp only [spec_AreSigns.j0] at H; by_cases c8 : x24_1 = true
   ·subst c8; rw [if_pos rfl] at H; obtain rfl := Option.some.inj H; go_wp2; go_ret; exact ⟨by rfl, (bg HB GE161)⟩
   replace c8 := Bool.eq_false_iff.mpr c8; subst c8; rw [if_neg nf] at H; have H' := Aside0.mk H; clear H; go_wp2; go_loopg [3] kj1 (fun kq v3 w' => ∃ (x3_2 : Int), v3 = .int .i64 x3_2 ∧ Aside0 (spec_AreSigns.l0 kq x3_2 a0_0 a0_1 = some r) ∧ Aside0 (kq ≤ kj1) ∧ Aside0 (w'.heap[gb161]? = some (.cells #[.int .i64 a0_0, .string a0_1] 30 (0, 0))) ∧ Aside0 (Below w.heap.size w w'))
   case atStart => exact ⟨(0), (by rfl), H', ⟨Nat.le_refl _⟩, ⟨by exact bk BK161⟩, ⟨(bg HB GE161)⟩⟩
   case round =>
    clear H'; obtain ⟨x3_2, rfl, HA, HK2, BK161, HB⟩ := hrel
    cases gk with
    | zero => exact absurd HA.out (by simp [spec_AreSigns.l0])
    | succ k2 =>
     have H := HA.out; clear HA; simp only [spec_AreSigns.l0] at H; by_cases c9 : x3_2 < (a0_1.size : Int); rotate_left
     ·rw [if_neg c9] at H; have c9b0 := decide_eq_false c9; clear c9; obtain rfl := Option.some.inj H; have hcz18_0 := bc BK161 0; have hcz18_1 := bc BK161 1; go_wp2; go_ret; exact ⟨by rfl, (bg HB GE161)⟩
     rw [if_pos c9] at H; have c9b0 := decide_eq_true c9; clear c9; obtain ⟨c10, H⟩ := ifn H; have c10b0 := decide_eq_true c10; clear c10; by_cases c12 : (bt a0_1 x3_2) = 43
     ·rw [if_pos c12] at H; have c12b0 : ((bt a0_1 x3_2) == 43) = true := beq_iff_eq.mpr c12; have c12b1 : ((bt a0_1 x3_2) != 43) = false := bne_eq_false_iff_eq.mpr c12; clear c12; have H' := Aside0.mk H; clear H; have hcz13_0 := bc BK161 0; have hcz13_1 := bc BK161 1; have p11 : 0 ≤ (x3_2 : Int) := od; have q11 : x3_2 < (a0_1.size : Int) := od; have hx11 := bt_at a0_1 x3_2; replace p11 := eq_true p11; replace q11 := eq_true q11; go_wp2; go_roundg k2
      case measure => have := HJ1.out; have := HK2.out; omega
      case rel => exact ⟨(wrap64 (x3_2 + 1)), (by rfl), H', ⟨by have := HJ1.out; have := HK2.out; omega⟩, ⟨by exact bk BK161⟩, ⟨(bg HB GE161)⟩⟩
     rw [if_neg c12] at H; have c12b0 : ((bt a0_1 x3_2) == 43) = false := beq_eq_false_iff_ne.mpr c12; have c12b1 : ((bt a0_1 x3_2) != 43) = true := bne_iff_ne.mpr c12; by_cases c15 : (bt a0_1 x3_2) = 45; rotate_left
     ·rw [if_neg c15] at H; have c15b0 : ((bt a0_1 x3_2) == 45) = false := beq_eq_false_iff_ne.mpr c15; have c15b1 : ((bt a0_1 x3_2) != 45) = true := bne_iff_ne.mpr c15; obtain rfl := Option.some.inj H; have hcz17_0 := bc BK161 0; have hcz17_1 := bc BK161 1; have p11 : 0 ≤ (x3_2 : Int) := od; have q11 : x3_2 < (a0_1.size : Int) := od; have hx11 := bt_at a0_1 x3_2; replace p11 := eq_true p11; replace q11 := eq_true q11; have p14 : 0 ≤ (x3_2 : Int) := od; have q14 : x3_2 < (a0_1.size : Int) := od; have hx14 := bt_at a0_1 x3_2; replace p14 := eq_true p14; replace q14 := eq_true q14; go_wp2; go_ret; exact ⟨by rfl, (bg HB GE161)⟩
     rw [if_pos c15] at H; have c15b0 : ((bt a0_1 x3_2) == 45) = true := beq_iff_eq.mpr c15; have c15b1 : ((bt a0_1 x3_2) != 45) = false := bne_eq_false_iff_eq.mpr c15; clear c15; have H' := Aside0.mk H; clear H; have hcz16_0 := bc BK161 0; have hcz16_1 := bc BK161 1; have p11 : 0 ≤ (x3_2 : Int) := od; have q11 : x3_2 < (a0_1.size : Int) := od; have hx11 := bt_at a0_1 x3_2; replace p11 := eq_true p11; replace q11 := eq_true q11; have p14 : 0 ≤ (x3_2 : Int) := od; have q14 : x3_2 < (a0_1.size : Int) := od; have hx14 := bt_at a0_1 x3_2; replace p14 := eq_true p14; replace q14 := eq_true q14; go_wp2; go_roundg k2
     case measure => have := HJ1.out; have := HK2.out; omega
     case rel => exact ⟨(wrap64 (x3_2 + 1)), (by rfl), H', ⟨by have := HJ1.out; have := HK2.out; omega⟩, ⟨by exact bk BK161⟩, ⟨(bg HB GE161)⟩⟩

/-! ### spec_l1PickInt: function 60 -/
def spec_l1PickInt.f (s0_0 : List Int) (s0_1 : Int) (s0_2 : Int) (l1 : List Int) : Option (Int × Int × Int) := (spec_l1Below.f s0_0 s0_1 s0_2 (l1.length : Int)).bind fun bt163 => (if 0 ≤ bt163.1 then (if bt163.1 < (l1.length : Int) then (some (rd l1 bt163.1, bt163.2.1, bt163.2.2)) else (none)) else (none))
set_option maxHeartbeats 8000000 in
set_option maxRecDepth 100000 in
theorem spec_l1PickInt.calls (g : Nat) (s0_0 : List Int) (s0_1 s0_2 : Int) (A1 : Option Addr) (c1 : Nat) (l1 : List Int) (r1 r2 r3 : Int) (w0 w : World) (hI : IsS72 w0 w g s0_0 s0_1 s0_2) (hB : Below w0.heap.size w0 w) (hr1 : Kd.C (Kd.int .i64) w A1 l1.length l1) (hc1 : l1.length ≤ c1) (hf1 : ∀ ad, A1 = some ad → 0 < l1.length → ad.block ≠ g) (h : spec_l1PickInt.f s0_0 s0_1 s0_2 l1 = some (r1, r2, r3)) :
  Calls Try.prog 60 #[.pointer (some ⟨g, 0, none⟩), .slice A1 l1.length c1] w fun e w' => e = .returned (.int .i64 r1) ∧ IsS72 w0 w' g s0_0 r2 r3 ∧ Below w0.heap.size w0 w' ∧ KeepBut w w' g none := by
 have HR1 := Aside0.mk hr1; have HC1 := Aside0.mk hc1; clear hr1 hc1; have HI0 := Aside0.mk hI; have HK := Aside0.mk (KeepBut.refl w g none); have HL := Aside0.mk hB.size; clear hI; have HW0 := Aside0.mk hB.size; have HB := Aside0.mk hB; clear hB; have H := h; unfold spec_l1PickInt.f at H; clear h; replace H := bnd H; obtain ⟨⟨t163, t164, t165⟩, A3, H⟩ := H; dsimp only at H; obtain ⟨c4, H⟩ := ifn H; have c4b0 := decide_eq_true c4; clear c4; obtain ⟨c5, H⟩ := ifn H; have c5b0 := decide_eq_true c5; clear c5; replace H := i3 H; obtain ⟨rfl, rfl, rfl⟩ := H; go_enter Try.func60, Try.ntmps60; go_wp2_with (((with_reducible refine gate_callee (f := 30) rfl ?_); refine gM (some 9) Try.func30 rfl (spec_l1Below.calls g s0_0 s0_1 s0_2 (l1.length : Int) t163 t164 t165 w0 _ HI0.out HB.out A3.out) ?_; rintro w6 ⟨hi, hb, hk⟩; replace HK := kt HK hk; replace HB := Aside0.mk hb; replace HI0 := Aside0.mk hi; clear hb hk hi; have p166 : 0 ≤ (t163 : Int) := od; have q166 : t163 < (l1.length : Int) := od; obtain ⟨ad166, e166, hx166_0⟩ := Kd.at_int HR1.out t163 p166 q166; cases e166; replace hx166_0 := keep_cell HK.out hx166_0 (by (rw [add_block]; exact hf1 _ rfl (by omega))); replace p166 := eq_true p166; replace q166 := eq_true q166)); go_ret; exact ⟨by rfl, HI0.out, HB.out, HK.out⟩

/-! ### spec_l3Byte: function 88 -/
def spec_l3Byte.f (a0 : Int) : Option (ByteArray) := if a0 > 0 then (some (⟨#[43]⟩ : ByteArray)) else (some (⟨#[45]⟩ : ByteArray))
set_option maxHeartbeats 8000000 in
set_option maxRecDepth 100000 in
theorem spec_l3Byte.calls (a0 : Int) (r : ByteArray) (w : World) (h : spec_l3Byte.f a0 = some r) :
  Calls Try.prog 88 #[.int .i64 a0] w fun e w' => e = .returned (.string r) ∧ Drawn0 w w' := by
 have H := h; unfold spec_l3Byte.f at H; clear h; by_cases c2 : a0 > 0
 ·rw [if_pos c2] at H; have c2b0 : decide (0 < a0) = true := decide_eq_true c2; clear c2; obtain rfl := Option.some.inj H; go_enter Try.func88, Try.ntmps88; go_wp2; go_ret; exact ⟨by rfl, by repeat (exact Drawn0.refl _)⟩
 rw [if_neg c2] at H; have c2b0 : decide (0 < a0) = false := decide_eq_false c2; clear c2; obtain rfl := Option.some.inj H; go_enter Try.func88, Try.ntmps88; go_wp2; go_ret; exact ⟨by rfl, by repeat (exact Drawn0.refl _)⟩

/-! ### spec_l2Area: function 93 -/
def spec_l2Area.f (a0_0 : Int) (a0_1 : Int) (a1_0 : Int) (a1_1 : Int) (a2_0 : Int) (a2_1 : Int) : Option (Int) := some (wrap64 ((wrap64 ((wrap64 (a1_0 - a0_0)) * (wrap64 (a2_1 - a0_1)))) - (wrap64 ((wrap64 (a1_1 - a0_1)) * (wrap64 (a2_0 - a0_0))))))
set_option maxHeartbeats 8000000 in
set_option maxRecDepth 100000 in
theorem spec_l2Area.calls (a0_0 a0_1 a1_0 a1_1 a2_0 a2_1 r : Int) (w : World) (h : spec_l2Area.f a0_0 a0_1 a1_0 a1_1 a2_0 a2_1 = some r) :
  Calls Try.prog 93 #[.agg #[.int .i64 a0_0, .int .i64 a0_1], .agg #[.int .i64 a1_0, .int .i64 a1_1], .agg #[.int .i64 a2_0, .int .i64 a2_1]] w fun e w' => e = .returned (.int .i64 r) ∧ Below w.heap.size w w' := by
 have hu114 := Try.underlying114; have HB := Aside0.mk (Below.refl w.heap.size w); have H := h; unfold spec_l2Area.f at H; clear h; obtain rfl := Option.some.inj H; go_enter Try.func93, Try.ntmps93; go_wp2_with (first | ((with_reducible refine gate_dst (N := 3) rfl ?_); refine bx 3 #[.int .i64 a0_0, .int .i64 a0_1] 114 ?_; intro gb167 hg w4 hbox hb; have BK167 := Aside0.mk hbox; have GE167 := gs HB hg; have GW167 := GE167; replace HB := bs HB hb; clear hb hbox hg) | ((with_reducible refine gate_dst (N := 4) rfl ?_); refine bx 4 #[.int .i64 a1_0, .int .i64 a1_1] 114 ?_; intro gb168 hg w5 hbox hb; have BK168 := Aside0.mk hbox; have GW168 := Aside0.mk ((by rw [hg]; exact (below_size (bg HB GE167)) : w.heap.size ≤ gb168)); have GE168 := Aside0.mk ((by rw [hg]; exact (below_size (bg HB GE167)) : w.heap.size ≤ gb168)); replace HB := bsg HB GE167 hb; have NB167_168 := nl (blk_lt (bk BK167)) hg; have NB168_167 := nq (blk_lt (bk BK167)) hg; replace BK167 := bw hb (bk BK167); clear hb hbox hg) | ((with_reducible refine gate_dst (N := 5) rfl ?_); refine bx 5 #[.int .i64 a2_0, .int .i64 a2_1] 114 ?_; intro gb169 hg w6 hbox hb; have BK169 := Aside0.mk hbox; have GW169 := Aside0.mk ((by rw [hg]; exact (below_size HB.out) : w.heap.size ≤ gb169)); have GE169 := Aside0.mk ((by rw [hg]; exact (below_size HB.out) : w.heap.size ≤ gb169)); replace HB := bs HB hb; have NB167_169 := nl (blk_lt (bk BK167)) hg; have NB169_167 := nq (blk_lt (bk BK167)) hg; replace BK167 := bw hb (bk BK167); have NB168_169 := nl (blk_lt (bk BK168)) hg; have NB169_168 := nq (blk_lt (bk BK168)) hg; replace BK168 := bw hb (bk BK168); clear hb hbox hg; have hnb7 := NB168_167.out; have hnc7 := NB167_168.out; have hnb8 := NB168_169.out; have hnc8 := NB169_168.out; have hcz9_0 := bc BK168 0; have hcz9_1 := bc BK168 1; have hnb10 := NB167_169.out; have hnc10 := NB169_167.out; have hcz11_0 := bc BK167 0; have hcz11_1 := bc BK167 1; have hcz12_0 := bc BK169 0; have hcz12_1 := bc BK169 1; )); go_ret; exact ⟨by rfl, HB.out⟩

/-! ### spec_l2Fits: function 100 -/
def spec_l2Fits.f (a0_0 : Int) (a0_1 : Int) (a1 : Int) : Option (Bool) := (spec_l1In.f a0_0 (wrap64 (-a1)) a1).bind fun t171 => (if t171 = true then ((spec_l1In.f a0_1 (wrap64 (-a1)) a1).bind fun t172 => (some t172)) else (some false))
set_option maxHeartbeats 8000000 in
set_option maxRecDepth 100000 in
theorem spec_l2Fits.calls (a0_0 a0_1 a1 : Int) (r : Bool) (w : World) (h : spec_l2Fits.f a0_0 a0_1 a1 = some r) :
  Calls Try.prog 100 #[.agg #[.int .i64 a0_0, .int .i64 a0_1], .int .i64 a1] w fun e w' => e = .returned (.bool r) ∧ Below w.heap.size w w' := by
 have hu114 := Try.underlying114; have HB := Aside0.mk (Below.refl w.heap.size w); have H := h; unfold spec_l2Fits.f at H; clear h; obtain ⟨t171, A3, H⟩ := bnd H; by_cases c4 : t171 = true; rotate_left
 ·replace c4 := Bool.eq_false_iff.mpr c4; subst c4; rw [if_neg nf] at H; obtain rfl := Option.some.inj H; go_enter Try.func100, Try.ntmps100; go_wp2_with (first | ((with_reducible refine gate_dst (N := 2) rfl ?_); refine bx 2 #[.int .i64 a0_0, .int .i64 a0_1] 114 ?_; intro gb170 hg w8 hbox hb; have BK170 := Aside0.mk hbox; have GE170 := gs HB hg; have GW170 := GE170; replace HB := bs HB hb; clear hb hbox hg; have hcz9_0 := bc BK170 0; have hcz9_1 := bc BK170 1; ) | ((with_reducible refine gate_callee (f := 35) rfl ?_); refine gM (some 10) Try.func35 rfl (spec_l1In.calls a0_0 (wrap64 (-a1)) a1 false _ A3.out) ?_; rintro w' ⟨nd, rfl⟩)); go_ret; exact ⟨by rfl, (bg HB GE170)⟩
 subst c4; rw [if_pos rfl] at H; obtain ⟨t172, A5, H⟩ := bnd H; obtain rfl := Option.some.inj H; go_enter Try.func100, Try.ntmps100; go_wp2_with (first | ((with_reducible refine gate_dst (N := 2) rfl ?_); refine bx 2 #[.int .i64 a0_0, .int .i64 a0_1] 114 ?_; intro gb170 hg w6 hbox hb; have BK170 := Aside0.mk hbox; have GE170 := gs HB hg; have GW170 := GE170; replace HB := bs HB hb; clear hb hbox hg; have hcz7_0 := bc BK170 0; have hcz7_1 := bc BK170 1; ) | ((with_reducible refine gate_callee (f := 35) rfl ?_); refine gM (some 10) Try.func35 rfl (spec_l1In.calls a0_0 (wrap64 (-a1)) a1 true _ A3.out) ?_; rintro w' ⟨nd, rfl⟩) | (go_at_call 35; (with_reducible refine (spec_l1In.calls a0_1 (wrap64 (-a1)) a1 t172 _ A5.out).mono ?_); rintro e w' ⟨rfl, ⟨nd, rfl⟩⟩)); go_ret; exact ⟨by rfl, (bg HB GE170)⟩

/-! ### spec_ArePoints: function 92 -/
mutual
def spec_ArePoints.l0 : Nat → List (S114) → Int → Option (Bool)
 | 0, _, _ => none
 | k + 1, x0, x3 => if x3 < (x0.length : Int) then (if 0 ≤ x3 then ((spec_l2Fits.f ((rd_T114 x0 x3).f0) ((rd_T114 x0 x3).f1) 50).bind fun t175 => (if t175 = true then (spec_ArePoints.l1 k x0 x3 0) else (some false))) else (none)) else (some true)
def spec_ArePoints.l1 : Nat → List (S114) → Int → Int → Option (Bool)
 | 0, _, _, _ => none
 | k + 1, x0, x3, x4 => if x4 < x3 then (spec_ArePoints.l2 k x0 x3 x4 0) else (spec_ArePoints.l0 k x0 (wrap64 (x3 + 1)))
def spec_ArePoints.l2 : Nat → List (S114) → Int → Int → Int → Option (Bool)
 | 0, _, _, _, _ => none
 | k + 1, x0, x3, x4, x5 => if x5 < x4 then (if 0 ≤ x5 then (if x5 < (x0.length : Int) then (if 0 ≤ x4 then (if x4 < (x0.length : Int) then (if 0 ≤ x3 then (if x3 < (x0.length : Int) then ((spec_l2Area.f ((rd_T114 x0 x5).f0) ((rd_T114 x0 x5).f1) ((rd_T114 x0 x4).f0) ((rd_T114 x0 x4).f1) ((rd_T114 x0 x3).f0) ((rd_T114 x0 x3).f1)).bind fun t179 => (if t179 = 0 then (some false) else (spec_ArePoints.l2 k x0 x3 x4 (wrap64 (x5 + 1))))) else (none)) else (none)) else (none)) else (none)) else (none)) else (none)) else (spec_ArePoints.l1 k x0 x3 (wrap64 (x4 + 1)))
end
def spec_ArePoints.f (k : Nat) (l0 : List (S114)) : Option (Bool) := (spec_l1In.f (l0.length : Int) 3 7).bind fun t173 => (if t173 = true then (spec_ArePoints.l0 k l0 0) else (some false))
def spec_ArePoints.T14 : Bool × List (List Nat × List Nat) := (true, [([], []), ([], []), ([0, 1], [0, 1]), ([2], [2]), ([], []), ([], []), ([4, 5], [4, 5]), ([6], [6]), ([], []), ([], []), ([8, 9], [8, 9]), ([10], [10]), ([3, 7, 11], [3, 7, 11]), ([12], [12])])
def spec_ArePoints.B14 : List Nat := [0, 0, 3, 7, 0, 0, 48, 112, 0, 0, 768, 1792, 4095, 8191]
theorem spec_ArePoints.tab14  : rtab .any (opsOf Try.f92 14) = spec_ArePoints.T14 := by kernel_rfl
theorem spec_ArePoints.bits14  : waitsOk spec_ArePoints.T14.2 spec_ArePoints.B14 = true := by kernel_rfl
set_option maxHeartbeats 8000000 in
set_option maxRecDepth 100000 in
theorem spec_ArePoints.calls (k : Nat) (A0 : Option Addr) (c0 : Nat) (l0 : List (S114)) (r : Bool) (w : World) (hr0 : Kd.C k114 w A0 l0.length l0) (hc0 : l0.length ≤ c0) (h : spec_ArePoints.f k l0 = some r) :
  Calls Try.prog 92 #[.slice A0 l0.length c0] w fun e w' => e = .returned (.bool r) ∧ Below w.heap.size w w' := by
 have hu114 := Try.underlying114; have HR0 := Aside0.mk hr0; have HC0 := Aside0.mk hc0; clear hr0 hc0; have HB := Aside0.mk (Below.refl w.heap.size w); have H := h; unfold spec_ArePoints.f at H; clear h; obtain ⟨t173, A2, H⟩ := bnd H; by_cases c3 : t173 = true; rotate_left
 ·replace c3 := Bool.eq_false_iff.mpr c3; subst c3; rw [if_neg nf] at H; obtain rfl := Option.some.inj H; go_enter Try.func92, Try.ntmps92; go_wp2_with (((with_reducible refine gate_callee (f := 35) rfl ?_); refine gM (some 8) Try.func35 rfl (spec_l1In.calls (l0.length : Int) 3 7 false _ A2.out) ?_; rintro w' ⟨nd, rfl⟩)); go_ret; exact ⟨by rfl, (bl HB)⟩
 subst c3; rw [if_pos rfl] at H; have H' := Aside0.mk H; clear H; go_enter Try.func92, Try.ntmps92; go_wp2_with (((with_reducible refine gate_callee (f := 35) rfl ?_); refine gM (some 8) Try.func35 rfl (spec_l1In.calls (l0.length : Int) 3 7 true _ A2.out) ?_; rintro w' ⟨nd, rfl⟩)); go_loopg [3] k (fun kq v3 w' => ∃ (x3_1 : Int), v3 = .int .i64 x3_1 ∧ Aside0 (spec_ArePoints.l0 kq l0 x3_1 = some r) ∧ Aside0 (kq ≤ k) ∧ Aside0 (Below w.heap.size w w'))
 case atStart => exact ⟨(0), (by rfl), H', ⟨Nat.le_refl _⟩, ⟨(bl HB)⟩⟩
 case round =>
  clear H'; obtain ⟨x3_1, rfl, HA, HK1, HB⟩ := hrel
  cases gk with
  | zero => exact absurd HA.out (by simp [spec_ArePoints.l0])
  | succ k1 =>
   have H := HA.out; clear HA; simp only [spec_ArePoints.l0] at H; by_cases c4 : x3_1 < (l0.length : Int); rotate_left
   ·rw [if_neg c4] at H; have c4b0 := decide_eq_false c4; clear c4; obtain rfl := Option.some.inj H; go_wp2; go_ret; exact ⟨by rfl, (bl HB)⟩
   rw [if_pos c4] at H; have c4b0 := decide_eq_true c4; clear c4; obtain ⟨c5, H⟩ := ifn H; have c5b0 := decide_eq_true c5; clear c5; obtain ⟨t175, A6, H⟩ := bnd H; by_cases c7 : t175 = true; rotate_left
   ·replace c7 := Bool.eq_false_iff.mpr c7; subst c7; rw [if_neg nf] at H; obtain rfl := Option.some.inj H; have p174 : 0 ≤ (x3_1 : Int) := od; have q174 : x3_1 < (l0.length : Int) := od; obtain ⟨ad174, e174, hx174_0, hx174_1⟩ := at_T114 HR0.out x3_1 p174 q174; cases e174; replace hx174_0 := cb HB.out hx174_0; replace hx174_1 := cb HB.out hx174_1; replace p174 := eq_true p174; replace q174 := eq_true q174; go_wp2_with (((with_reducible refine gate_callee (f := 100) rfl ?_); refine gM (some 20) Try.func100 rfl (spec_l2Fits.calls ((rd_T114 l0 x3_1).f0) ((rd_T114 l0 x3_1).f1) 50 false _ A6.out) ?_; rintro w23 hb; replace HB := bs HB hb; (clear hb))); go_ret; exact ⟨by rfl, (bl HB)⟩
   subst c7; rw [if_pos rfl] at H; have H' := Aside0.mk H; clear H; have p174 : 0 ≤ (x3_1 : Int) := od; have q174 : x3_1 < (l0.length : Int) := od; obtain ⟨ad174, e174, hx174_0, hx174_1⟩ := at_T114 HR0.out x3_1 p174 q174; cases e174; replace hx174_0 := cb HB.out hx174_0; replace hx174_1 := cb HB.out hx174_1; replace p174 := eq_true p174; replace q174 := eq_true q174; go_wp2_with (((with_reducible refine gate_callee (f := 100) rfl ?_); refine gM (some 20) Try.func100 rfl (spec_l2Fits.calls ((rd_T114 l0 x3_1).f0) ((rd_T114 l0 x3_1).f1) 50 true _ A6.out) ?_; rintro w8 hb; replace HB := bs HB hb; (clear hb))); go_loopg [4] k1 (fun kq v4 w' => ∃ (x4_2 : Int), v4 = .int .i64 x4_2 ∧ Aside0 (spec_ArePoints.l1 kq l0 x3_1 x4_2 = some r) ∧ Aside0 (kq ≤ k1) ∧ Aside0 (Below w.heap.size w w'))
   case atStart => exact ⟨(0), (by rfl), H', ⟨Nat.le_refl _⟩, ⟨(bl HB)⟩⟩
   case round =>
    clear H' c4b0 c5b0 hx174_0 hx174_1 p174 q174; obtain ⟨x4_2, rfl, HA, HK2, HB⟩ := hrel
    cases gk with
    | zero => exact absurd HA.out (by simp [spec_ArePoints.l1])
    | succ k2 =>
     have H := HA.out; clear HA; simp only [spec_ArePoints.l1] at H; by_cases c9 : x4_2 < x3_1; rotate_left
     ·rw [if_neg c9] at H; have c9b0 := decide_eq_false c9; clear c9; have H' := Aside0.mk H; clear H; go_wp2; go_roundg k2
      case measure => have := HK1.out; have := HK2.out; omega
      case rel => exact ⟨(wrap64 (x3_1 + 1)), (by rfl), H', ⟨by have := HK1.out; have := HK2.out; omega⟩, ⟨(bl HB)⟩⟩
     rw [if_pos c9] at H; have c9b0 := decide_eq_true c9; clear c9; have H' := Aside0.mk H; clear H; go_wp2; go_loopg [5] k2 (fun kq v5 w' => ∃ (x5_3 : Int), v5 = .int .i64 x5_3 ∧ Aside0 (spec_ArePoints.l2 kq l0 x3_1 x4_2 x5_3 = some r) ∧ Aside0 (kq ≤ k2) ∧ Aside0 (Below w.heap.size w w'))
     case atStart => exact ⟨(0), (by rfl), H', ⟨Nat.le_refl _⟩, ⟨(bl HB)⟩⟩
     case round =>
      clear H' c9b0; obtain ⟨x5_3, rfl, HA, HK3, HB⟩ := hrel
      cases gk with
      | zero => exact absurd HA.out (by simp [spec_ArePoints.l2])
      | succ k3 =>
       have H := HA.out; clear HA; simp only [spec_ArePoints.l2] at H; by_cases c10 : x5_3 < x4_2; rotate_left
       ·rw [if_neg c10] at H; have c10b0 := decide_eq_false c10; clear c10; have H' := Aside0.mk H; clear H; go_wp2; go_roundg k3
        case measure => have := HK1.out; have := HK2.out; have := HK3.out; omega
        case rel => exact ⟨(wrap64 (x4_2 + 1)), (by rfl), H', ⟨by have := HK1.out; have := HK2.out; have := HK3.out; omega⟩, ⟨(bl HB)⟩⟩
       rw [if_pos c10] at H; have c10b0 := decide_eq_true c10; clear c10; obtain ⟨c11, H⟩ := ifn H; have c11b0 := decide_eq_true c11; clear c11; obtain ⟨c12, H⟩ := ifn H; have c12b0 := decide_eq_true c12; clear c12; obtain ⟨c13, H⟩ := ifn H; have c13b0 := decide_eq_true c13; clear c13; obtain ⟨c14, H⟩ := ifn H; have c14b0 := decide_eq_true c14; clear c14; obtain ⟨c15, H⟩ := ifn H; have c15b0 := decide_eq_true c15; clear c15; obtain ⟨c16, H⟩ := ifn H; have c16b0 := decide_eq_true c16; clear c16; obtain ⟨t179, A17, H⟩ := bnd H; by_cases c18 : t179 = 0
       ·rw [if_pos c18] at H; have c18b0 := eb0 c18; have c18b1 := eb1 c18; clear c18; obtain rfl := Option.some.inj H; go_wp2; replace HB := Aside0.mk (below_drew1 HB.out); have p176 : 0 ≤ (x5_3 : Int) := od; have q176 : x5_3 < (l0.length : Int) := od; obtain ⟨ad176, e176, hx176_0, hx176_1⟩ := at_T114 HR0.out x5_3 p176 q176; have hw176_1 := hx176_1; have hw176_0 := hx176_0; obtain rfl : ad174 = ad176 := (by injection e176); replace hx176_0 := cb HB.out hx176_0; replace hx176_1 := cb HB.out hx176_1; replace p176 := eq_true p176; replace q176 := eq_true q176; have p177 : 0 ≤ (x4_2 : Int) := od; have q177 : x4_2 < (l0.length : Int) := od; obtain ⟨ad177, e177, hx177_0, hx177_1⟩ := at_T114 HR0.out x4_2 p177 q177; have hw177_1 := hx177_1; have hw177_0 := hx177_0; obtain rfl : ad174 = ad177 := (by injection e177); replace hx177_0 := cb HB.out hx177_0; replace hx177_1 := cb HB.out hx177_1; replace p177 := eq_true p177; replace q177 := eq_true q177; have p178 : 0 ≤ (x3_1 : Int) := od; have q178 : x3_1 < (l0.length : Int) := od; obtain ⟨ad178, e178, hx178_0, hx178_1⟩ := at_T114 HR0.out x3_1 p178 q178; have hw178_1 := hx178_1; have hw178_0 := hx178_0; obtain rfl : ad174 = ad178 := (by injection e178); replace hx178_0 := cb HB.out hx178_0; replace hx178_1 := cb HB.out hx178_1; replace p178 := eq_true p178; replace q178 := eq_true q178; refine sr 14 (S := fun w' => w'.cell? (ad174.add ((x5_3).toNat * 2)) = some (.int .i64 ((rd_T114 l0 x5_3).f0)) ∧ w'.cell? ⟨(ad174.add ((x5_3).toNat * 2)).block, (ad174.add ((x5_3).toNat * 2)).off + 1, none⟩ = some (.int .i64 ((rd_T114 l0 x5_3).f1)) ∧ w'.cell? (ad174.add ((x4_2).toNat * 2)) = some (.int .i64 ((rd_T114 l0 x4_2).f0)) ∧ w'.cell? ⟨(ad174.add ((x4_2).toNat * 2)).block, (ad174.add ((x4_2).toNat * 2)).off + 1, none⟩ = some (.int .i64 ((rd_T114 l0 x4_2).f1)) ∧ w'.cell? (ad174.add ((x3_1).toNat * 2)) = some (.int .i64 ((rd_T114 l0 x3_1).f0)) ∧ w'.cell? ⟨(ad174.add ((x3_1).toNat * 2)).block, (ad174.add ((x3_1).toNat * 2)).off + 1, none⟩ = some (.int .i64 ((rd_T114 l0 x3_1).f1))) spec_ArePoints.tab14 spec_ArePoints.bits14 ⟨(cb HB.out hw176_0), (cb HB.out hw176_1), (cb HB.out hw177_0), (cb HB.out hw177_1), (cb HB.out hw178_0), (cb HB.out hw178_1)⟩ (fun hHeld HT_ HW_ => ?_); generalize wr.drew = w19 at HB hx176_0 hx176_1 hx177_0 hx177_1 hx178_0 hx178_1 hHeld ⊢; refine pu 0 32 HT_ ?_; refine pu 1 33 HT_ ?_; refine pu 2 34 HT_ ?_; refine pu 4 36 HT_ ?_; refine pu 5 37 HT_ ?_; refine pu 6 38 HT_ ?_; refine pu 8 40 HT_ ?_; refine pu 9 41 HT_ ?_; refine pu 10 42 HT_ ?_; refine tq 3 35 HT_ HW_ hHeld ?_; refine tq 7 39 HT_ HW_ hHeld ?_; refine tq 11 43 HT_ HW_ hHeld ?_; refine gc 12 44 HT_ Try.func93 #[.agg #[.int .i64 ((rd_T114 l0 x5_3).f0), .int .i64 ((rd_T114 l0 x5_3).f1)], .agg #[.int .i64 ((rd_T114 l0 x4_2).f0), .int .i64 ((rd_T114 l0 x4_2).f1)], .agg #[.int .i64 ((rd_T114 l0 x3_1).f0), .int .i64 ((rd_T114 l0 x3_1).f1)]] (fun K hK => ?_); (with_reducible refine (spec_l2Area.calls ((rd_T114 l0 x5_3).f0) ((rd_T114 l0 x5_3).f1) ((rd_T114 l0 x4_2).f0) ((rd_T114 l0 x4_2).f1) ((rd_T114 l0 x3_1).f0) ((rd_T114 l0 x3_1).f1) t179 _ A17.out).mono ?_); rintro e w20 ⟨rfl, hb⟩; refine ⟨_, rfl, ?_⟩; replace HB := bs HB hb; (clear hb); refine hK.out _ _ ⟨(cb HB.out hw176_0), (cb HB.out hw176_1), (cb HB.out hw177_0), (cb HB.out hw177_1), (cb HB.out hw178_0), (cb HB.out hw178_1)⟩ (fun hHeld => ?_); clear hK K; refine nr 44 ?_; refine pu 13 45 HT_ ?_; refine done_ (done_of HT_.out (by kernel_rfl)) ?_; go_wp2; go_ret; exact ⟨by rfl, (bl HB)⟩
       rw [if_neg c18] at H; have c18b0 := nb0 c18; have c18b1 := nb1 c18; have H' := Aside0.mk H; clear H; go_wp2; replace HB := Aside0.mk (below_drew1 HB.out); have p176 : 0 ≤ (x5_3 : Int) := od; have q176 : x5_3 < (l0.length : Int) := od; obtain ⟨ad176, e176, hx176_0, hx176_1⟩ := at_T114 HR0.out x5_3 p176 q176; have hw176_1 := hx176_1; have hw176_0 := hx176_0; obtain rfl : ad174 = ad176 := (by injection e176); replace hx176_0 := cb HB.out hx176_0; replace hx176_1 := cb HB.out hx176_1; replace p176 := eq_true p176; replace q176 := eq_true q176; have p177 : 0 ≤ (x4_2 : Int) := od; have q177 : x4_2 < (l0.length : Int) := od; obtain ⟨ad177, e177, hx177_0, hx177_1⟩ := at_T114 HR0.out x4_2 p177 q177; have hw177_1 := hx177_1; have hw177_0 := hx177_0; obtain rfl : ad174 = ad177 := (by injection e177); replace hx177_0 := cb HB.out hx177_0; replace hx177_1 := cb HB.out hx177_1; replace p177 := eq_true p177; replace q177 := eq_true q177; have p178 : 0 ≤ (x3_1 : Int) := od; have q178 : x3_1 < (l0.length : Int) := od; obtain ⟨ad178, e178, hx178_0, hx178_1⟩ := at_T114 HR0.out x3_1 p178 q178; have hw178_1 := hx178_1; have hw178_0 := hx178_0; obtain rfl : ad174 = ad178 := (by injection e178); replace hx178_0 := cb HB.out hx178_0; replace hx178_1 := cb HB.out hx178_1; replace p178 := eq_true p178; replace q178 := eq_true q178; refine sr 14 (S := fun w' => w'.cell? (ad174.add ((x5_3).toNat * 2)) = some (.int .i64 ((rd_T114 l0 x5_3).f0)) ∧ w'.cell? ⟨(ad174.add ((x5_3).toNat * 2)).block, (ad174.add ((x5_3).toNat * 2)).off + 1, none⟩ = some (.int .i64 ((rd_T114 l0 x5_3).f1)) ∧ w'.cell? (ad174.add ((x4_2).toNat * 2)) = some (.int .i64 ((rd_T114 l0 x4_2).f0)) ∧ w'.cell? ⟨(ad174.add ((x4_2).toNat * 2)).block, (ad174.add ((x4_2).toNat * 2)).off + 1, none⟩ = some (.int .i64 ((rd_T114 l0 x4_2).f1)) ∧ w'.cell? (ad174.add ((x3_1).toNat * 2)) = some (.int .i64 ((rd_T114 l0 x3_1).f0)) ∧ w'.cell? ⟨(ad174.add ((x3_1).toNat * 2)).block, (ad174.add ((x3_1).toNat * 2)).off + 1, none⟩ = some (.int .i64 ((rd_T114 l0 x3_1).f1))) spec_ArePoints.tab14 spec_ArePoints.bits14 ⟨(cb HB.out hw176_0), (cb HB.out hw176_1), (cb HB.out hw177_0), (cb HB.out hw177_1), (cb HB.out hw178_0), (cb HB.out hw178_1)⟩ (fun hHeld HT_ HW_ => ?_); generalize wr.drew = w21 at HB hx176_0 hx176_1 hx177_0 hx177_1 hx178_0 hx178_1 hHeld ⊢; refine pu 0 32 HT_ ?_; refine pu 1 33 HT_ ?_; refine pu 2 34 HT_ ?_; refine pu 4 36 HT_ ?_; refine pu 5 37 HT_ ?_; refine pu 6 38 HT_ ?_; refine pu 8 40 HT_ ?_; refine pu 9 41 HT_ ?_; refine pu 10 42 HT_ ?_; refine tq 3 35 HT_ HW_ hHeld ?_; refine tq 7 39 HT_ HW_ hHeld ?_; refine tq 11 43 HT_ HW_ hHeld ?_; refine gc 12 44 HT_ Try.func93 #[.agg #[.int .i64 ((rd_T114 l0 x5_3).f0), .int .i64 ((rd_T114 l0 x5_3).f1)], .agg #[.int .i64 ((rd_T114 l0 x4_2).f0), .int .i64 ((rd_T114 l0 x4_2).f1)], .agg #[.int .i64 ((rd_T114 l0 x3_1).f0), .int .i64 ((rd_T114 l0 x3_1).f1)]] (fun K hK => ?_); (with_reducible refine (spec_l2Area.calls ((rd_T114 l0 x5_3).f0) ((rd_T114 l0 x5_3).f1) ((rd_T114 l0 x4_2).f0) ((rd_T114 l0 x4_2).f1) ((rd_T114 l0 x3_1).f0) ((rd_T114 l0 x3_1).f1) t179 _ A17.out).mono ?_); rintro e w22 ⟨rfl, hb⟩; refine ⟨_, rfl, ?_⟩; replace HB := bs HB hb; (clear hb); refine hK.out _ _ ⟨(cb HB.out hw176_0), (cb HB.out hw176_1), (cb HB.out hw177_0), (cb HB.out hw177_1), (cb HB.out hw178_0), (cb HB.out hw178_1)⟩ (fun hHeld => ?_); clear hK K; refine nr 44 ?_; refine pu 13 45 HT_ ?_; refine done_ (done_of HT_.out (by kernel_rfl)) ?_; go_wp2; go_roundg k3
       case measure => have := HK1.out; have := HK2.out; have := HK3.out; omega
       case rel => exact ⟨(wrap64 (x5_3 + 1)), (by rfl), H', ⟨by have := HK1.out; have := HK2.out; have := HK3.out; omega⟩, ⟨(bl HB)⟩⟩

end Go.Proofs.Ytmidcafamppkeaa.P
