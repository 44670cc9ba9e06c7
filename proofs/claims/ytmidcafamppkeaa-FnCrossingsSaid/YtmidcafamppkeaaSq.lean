/- Small laws that make the printed walks short. Conditions: none. -/
import Derived.Test.YtmidcafamppkeaaP0
namespace Go.Proofs.Ytmidcafamppkeaa.P
open Go.RowKit Go.Proofs.YtmidcafamppkeaaW.PrintWords Go.Proofs.YtmidcafamppkeaaW.PrintLast Go.Proofs.YtmidcafamppkeaaW.PrintMore
set_option linter.unusedVariables false

theorem bnd {α β : Type} {x : Option α} {f : α → Option β} {r : β} (h : x.bind f = some r) : ∃ t, Aside0 (x = some t) ∧ f t = some r := by
  obtain ⟨t, h1, h2⟩ := Option.bind_eq_some_iff.mp h
  exact ⟨t, ⟨h1⟩, h2⟩
theorem bns {α β : Type} {e : α} {f : α → Option β} {r : β} (h : (some e).bind f = some r) : ∃ y, Aside0 (y = e) ∧ f y = some r := ⟨e, ⟨rfl⟩, h⟩
theorem ifn {c : Prop} [Decidable c] {α : Type} {a : Option α} {r : α} (h : (if c then a else none) = some r) : c ∧ a = some r := by
  by_cases hc : c
  · rw [if_pos hc] at h; exact ⟨hc, h⟩
  · rw [if_neg hc] at h; cases h
theorem cb {w w1 w' : World} {ad : Addr} {v : Value} (hb : Below w.heap.size w w1) (h : w.cell? ad = some v) (e : w1.cell? ad = some v → w'.cell? ad = some v := by exact fun h => h) : w'.cell? ad = some v := e ((hb.cell (World.block_lt_of_cell? _ _ h)).trans h)
theorem nm {α : Type} (e : α) : ∃ y, Aside0 (y = e) := ⟨e, ⟨rfl⟩⟩
theorem nj (e : Int) : ∃ j, e = j := ⟨e, rfl⟩
/-! The second list: what the arms of calls and boxes carry over. -/
theorem kt {w W W' w1 : World} {g : Nat} {row row1 : Option Nat} (h : Aside0 (KeepBut w W g row)) (hk : KeepBut W' w1 g row1) (s : KeepBut w W g row → KeepBut w W' g row := by intro h_; repeat (first | (with_reducible first | exact h_ | apply KeepBut.set_ | apply keep_drewN | apply keep_drew | apply keep_alloc) | exact h_)) (hr : row1 = row ∨ ∃ b, row1 = some b ∧ w.heap.size ≤ b := by exact .inl rfl) : Aside0 (KeepBut w w1 g row) := ⟨(s h.out).trans hk hr⟩
theorem kb {w W W' w1 : World} {g : Nat} (h : Aside0 (KeepBut w W g none)) (hb : Below W'.heap.size W' w1) (s : KeepBut w W g none → KeepBut w W' g none := by intro h_; repeat (first | (with_reducible first | exact h_ | apply KeepBut.set_ | apply keep_drewN | apply keep_drew | apply keep_alloc) | exact h_)) : Aside0 (KeepBut w w1 g none) := ⟨(s h.out).trans (KeepBut.of_below hb g none) (.inl rfl)⟩
theorem kg {w W W' w1 : World} {g : Nat} {row : Option Nat} (h : Aside0 (KeepBut w W g none)) (hg : W'.grownBy w1 row) (hr : row = none ∨ ∃ b, row = some b ∧ w.heap.size ≤ b) (s : KeepBut w W g none → KeepBut w W' g none := by intro h_; repeat (first | (with_reducible first | exact h_ | apply KeepBut.set_ | apply keep_drewN | apply keep_drew | apply keep_alloc) | exact h_)) : Aside0 (KeepBut w w1 g none) := ⟨(s h.out).trans (KeepBut.of_grown hg g) hr⟩
theorem kz {w W W' : World} {g : Nat} (h : Aside0 (KeepBut w W g none)) (s : KeepBut w W g none → KeepBut w W' g none := by intro h_; repeat (first | (with_reducible first | exact h_ | apply KeepBut.set_ | apply keep_drewN | apply keep_drew | apply keep_alloc) | exact h_)) : w.heap.size ≤ W'.heap.size := (s h.out).1
theorem ks {w W W' : World} {g q : Nat} (h : Aside0 (KeepBut w W g none)) (e : q = W'.heap.size) (s : KeepBut w W g none → KeepBut w W' g none := by intro h_; repeat (first | (with_reducible first | exact h_ | apply KeepBut.set_ | apply keep_drewN | apply keep_drew | apply keep_alloc) | exact h_)) : Aside0 (w.heap.size ≤ q) := ⟨e ▸ (s h.out).1⟩
theorem kw {b : Nat} {w W W' : World} {g q : Nat} (h0 : Aside0 (b ≤ w.heap.size)) (h : Aside0 (KeepBut w W g none)) (e : q = W'.heap.size) (s : KeepBut w W g none → KeepBut w W' g none := by intro h_; repeat (first | (with_reducible first | exact h_ | apply KeepBut.set_ | apply keep_drewN | apply keep_drew | apply keep_alloc) | exact h_)) : Aside0 (b ≤ q) := ⟨Nat.le_trans h0.out (e ▸ (s h.out).1)⟩
theorem nl {g q n : Nat} (h : g < n) (e : q = n) : Aside0 (g ≠ q) := ⟨e ▸ Nat.ne_of_lt h⟩
theorem nq {g q n : Nat} (h : g < n) (e : q = n) : Aside0 (q ≠ g) := ⟨e ▸ Nat.ne_of_gt h⟩
theorem kk {W w1 : World} {g g' : Nat} {row : Option Nat} {o : Obj} (hk : KeepBut W w1 g row) (h : W.heap[g']? = some o) (hn : Aside0 (g' ≠ g)) (hr : some g' ≠ row := by simp) : Aside0 (w1.heap[g']? = some o) := ⟨KeepBut.blk hk h hn.out hr⟩
theorem bw {W w1 : World} {g : Nat} {o : Obj} (hb : Below W.heap.size W w1) (h : W.heap[g]? = some o) : Aside0 (w1.heap[g]? = some o) := ⟨blk_below h hb⟩
theorem i2 {T0 : Type} {T1 : Type} {a0 b0 : T0} {a1 b1 : T1} (h : some (a0, a1) = some (b0, b1)) : a0 = b0 ∧ a1 = b1 := by simpa only [Option.some.injEq, Prod.mk.injEq] using h
theorem i3 {T0 : Type} {T1 : Type} {T2 : Type} {a0 b0 : T0} {a1 b1 : T1} {a2 b2 : T2} (h : some (a0, a1, a2) = some (b0, b1, b2)) : a0 = b0 ∧ a1 = b1 ∧ a2 = b2 := by simpa only [Option.some.injEq, Prod.mk.injEq] using h
theorem i4 {T0 : Type} {T1 : Type} {T2 : Type} {T3 : Type} {a0 b0 : T0} {a1 b1 : T1} {a2 b2 : T2} {a3 b3 : T3} (h : some (a0, a1, a2, a3) = some (b0, b1, b2, b3)) : a0 = b0 ∧ a1 = b1 ∧ a2 = b2 ∧ a3 = b3 := by simpa only [Option.some.injEq, Prod.mk.injEq] using h
theorem i6 {T0 : Type} {T1 : Type} {T2 : Type} {T3 : Type} {T4 : Type} {T5 : Type} {a0 b0 : T0} {a1 b1 : T1} {a2 b2 : T2} {a3 b3 : T3} {a4 b4 : T4} {a5 b5 : T5} (h : some (a0, a1, a2, a3, a4, a5) = some (b0, b1, b2, b3, b4, b5)) : a0 = b0 ∧ a1 = b1 ∧ a2 = b2 ∧ a3 = b3 ∧ a4 = b4 ∧ a5 = b5 := by simpa only [Option.some.injEq, Prod.mk.injEq] using h
theorem od {p : Prop} [Decidable p] (h : decide p = true := by first | (with_reducible assumption) | assumption) : p := of_decide_eq_true h
theorem nf : ¬ (false = true) := by decide
theorem eb0 {a b : Int} (h : a = b) : (a == b) = true := beq_iff_eq.mpr h
theorem eb1 {a b : Int} (h : a = b) : (a != b) = false := bne_eq_false_iff_eq.mpr h
theorem nb0 {a b : Int} (h : ¬ a = b) : (a == b) = false := beq_eq_false_iff_ne.mpr h
theorem nb1 {a b : Int} (h : ¬ a = b) : (a != b) = true := bne_iff_ne.mpr h
section
variable {P : Program} {ops : Array Oper} {Q : Exit → Act → World → Prop} {md : Region.Mode} {S : World → Prop} {ds : List Nat}
/-- A drawing region begins. -/
theorem sr {id : Nat} {a : Act} {w : World} {T : Bool × List (List Nat × List Nat)} {B : List Nat} (n : Nat) (S : World → Prop) (hT : rtab .any ops = T) (hB : waitsOk T.2 B = true) (hS : S w.drew) (h : S w.drew → Aside0 (rtab .any ops = T) → Aside0 (waitsOk T.2 B = true) → wpAnyLast P .any ops Q S [] n (Array.replicate n false) a w.drew)
    (hm : P.follows .mixedOrders = true := by kernel_rfl) (hn : ops.size = n := by exact rfl) : (Code.region id ops true).wp P Q a w := start_ (ds := []) _ hm hn rfl hS (fun h2 => h h2 ⟨hT⟩ ⟨hB⟩)
/-- A load that is taken first. -/
theorem tq (i N : Nat) {T : Bool × List (List Nat × List Nat)} {B : List Nat} {oi : Oper} {v : Value} {fuel : Nat} {l : Array Bool} {a : Act} {w : World} {a' : Act} (hT : Aside0 (rtab md ops = T)) (hW : Aside0 (waitsOk T.2 B = true)) (hS : S w)
    (h : wpAnyLast P md ops Q S ds fuel (l.setIfInBounds i true) a' w) (hi : ops[i]? = some oi := by exact rfl) (hN : oi.dst = some N := by exact rfl) (hc : takeW T B ds l.toList (l.setIfInBounds i true).toList i = true := by kernel_rfl)
    (hQ : ∀ c a w, Q (.panic c) (a.put oi.dst v) w → Q (.panic c) a w := by exact fun _ _ _ h => h) (hy : Region.wanted oi (yielded ops a.tmps) = true := by rfl)
    (hz : ∀ w', S w' → (execOp a.eval oi).run P w' = .ok (.value v) w' := by
      intro w' hs_
      first
        | obtain ⟨s0, s1, s2, s3, s4, s5, s6, s7, s8, s9, s10, s11, s12⟩ := hs_
        | obtain ⟨s0, s1, s2, s3, s4, s5, s6, s7, s8, s9, s10, s11⟩ := hs_
        | obtain ⟨s0, s1, s2, s3, s4, s5, s6, s7, s8, s9, s10⟩ := hs_
        | obtain ⟨s0, s1, s2, s3, s4, s5, s6, s7, s8, s9⟩ := hs_
        | obtain ⟨s0, s1, s2, s3, s4, s5, s6, s7, s8⟩ := hs_
        | obtain ⟨s0, s1, s2, s3, s4, s5, s6, s7⟩ := hs_
        | obtain ⟨s0, s1, s2, s3, s4, s5, s6⟩ := hs_
        | obtain ⟨s0, s1, s2, s3, s4, s5⟩ := hs_
        | obtain ⟨s0, s1, s2, s3, s4⟩ := hs_
        | obtain ⟨s0, s1, s2, s3⟩ := hs_
        | obtain ⟨s0, s1, s2⟩ := hs_
        | obtain ⟨s0, s1⟩ := hs_
        | skip
      go_simp
      with_reducible rfl)
    (ha : a.put (some N) v = a' := by simp only [Act.put, List.setIfInBounds_toArray, List.set_cons_zero, List.set_cons_succ, i64_w, i32_w]; rfl) : wpAnyLast P md ops Q S ds (fuel + 1) l a w :=
  take_ (i := i) (N := some N) (l.setIfInBounds i true) hi hN (take_ofW hT.out hW.out hc) hQ (.inl ⟨hy, hz⟩) hS ha h
/-- An operation whose guard says no. -/
theorem pm (i N : Nat) {T : Bool × List (List Nat × List Nat)} {oi : Oper} {fuel : Nat} {l : Array Bool} {a : Act} {w : World} {a' : Act} (hT : Aside0 (rtab md ops = T))
    (h : wpAnyLast P md ops Q S ds fuel (l.setIfInBounds i true) a' w) (hi : ops[i]? = some oi := by exact rfl) (hN : oi.dst = some N := by exact rfl) (hc : anyT T l.toList (l.setIfInBounds i true).toList i = true := by kernel_rfl)
    (hQ : ∀ c a w, Q (.panic c) (a.put oi.dst undef) w → Q (.panic c) a w := by exact fun _ _ _ h => h) (hy : Region.wanted oi (yielded ops a.tmps) = false := by rfl)
    (ha : a.put (some N) undef = a' := by simp only [Act.put, List.setIfInBounds_toArray, List.set_cons_zero, List.set_cons_succ, i64_w, i32_w]; rfl) : wpAnyLast P md ops Q S ds (fuel + 1) l a w :=
  pure_ (i := i) (N := some N) _ hi hN (any_of hT.out hc) hQ (.inr ⟨hy, rfl⟩) ha h
/-- The locals behind a call, spelled out. -/
theorem nr (N : Nat) {fuel : Nat} {l : Array Bool} {a a' : Act} {v : Value} {w : World} (h : wpAnyLast P md ops Q S ds fuel l a' w) (ha : a.put (some N) v = a' := by simp only [Act.put, List.setIfInBounds_toArray, List.set_cons_zero, List.set_cons_succ, i64_w, i32_w]; rfl) : wpAnyLast P md ops Q S ds fuel l (a.put (some N) v) w := by
  rw [ha]; exact h
/-- A call in a drawing region. -/
theorem gc (i N : Nat) {T : Bool × List (List Nat × List Nat)} {oi : Oper} {fuel : Nat} {l : Array Bool} {a : Act} {w : World} {f : FuncId} {fn : Func} {av : Array Operand} {ts : Array TypeId} (hT : Aside0 (rtab md ops = T)) (hf : P.funcs[f]? = some fn) (args : Array Value)
    (h : ∀ K : Act → World → Prop, Shut (∀ a' w', S w' → (S w' → wpAnyLast P md ops Q S ds fuel (l.setIfInBounds i true) a' w') → K a' w') → Calls P f args w fun e w' => ∃ v, e = .returned v ∧ K (a.put (some N) v) w')
    (hi : ops[i]? = some oi := by exact rfl) (hN : oi.dst = some N := by exact rfl) (hop : oi.op = .call { callee := .value (.func f), args := av, argTypes := ts } := by exact rfl) (hc : (readyT T.2 l.toList == [i] && l.toList.set i true == (l.setIfInBounds i true).toList) = true := by kernel_rfl) (hd : i ∉ ds := by decide) (hname : (fn.name == "runtime.NumGoroutine") = false := by kernel_rfl) (hb : fn.body.isSome = true := by rfl) (hw : Region.wanted oi (yielded ops a.tmps) = true := by rfl)
    (hargs : av.map a.eval = args := by (try simp only [List.map_toArray, List.map_cons, List.map_nil]); first | done | rfl) : wpAnyLast P md ops Q S ds (fuel + 1) l a w :=
  one_ (i := i) (N := some N) (l.setIfInBounds i true) hi hN (one_of hT.out hc) hd (fun K hK => goes_ hf hname hb args hw hN hop hargs (h K hK))
/-- A call: its contract's end is the walk's next world. -/
theorem gM {rest : List Oper} {oi : Oper} {a : Act} {w : World} {f : FuncId} {fn : Func} {av : Array Operand} {ts : Array TypeId} {args : Array Value} {v : Value} {R : World → Prop} (N : Option Tmp) (hf : P.funcs[f]? = some fn) (hop : oi.op = .call { callee := .value (.func f), args := av, argTypes := ts })
    (c : Calls P f args w fun e w' => e = .returned v ∧ R w') (h : ∀ w', R w' → wpList P ops Q rest (a.put N v) w') (hd : oi.dst = N := by exact rfl) (hg : oi.guard = none := by exact rfl) (hname : (fn.name == "runtime.NumGoroutine") = false := by kernel_rfl) (hb : fn.body.isSome = true := by exact rfl)
    (hargs : av.map a.eval = args := by (try simp only [List.map_toArray, List.map_cons, List.map_nil]); first | done | rfl | (simp only [List.length_drop, List.length_take]; rfl)) : wpList P ops Q (oi :: rest) a w :=
  gL N hd hg hf hname hb args hop (c.mono (by rintro e w' ⟨rfl, hr⟩; exact ⟨_, rfl, h w' hr⟩)) hargs
end

end Go.Proofs.Ytmidcafamppkeaa.P
