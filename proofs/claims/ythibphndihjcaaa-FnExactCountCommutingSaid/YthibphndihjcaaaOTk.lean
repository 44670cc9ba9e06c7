/- Steps of a drawing region: a load that is taken first; stores into an own row, and into a row of rows one of whose elements is lent. Conditions: none. -/
import Derived.Test.YthibphndihjcaaaP0
import Derived.Test.YthibphndihjcaaaWAll2
namespace Go.Proofs.Ythibphndihjcaaa.P
open Go.RowKit Go.Proofs.YthibphndihjcaaaW.PrintWords Go.Proofs.YthibphndihjcaaaW.PrintLast Go.Proofs.YthibphndihjcaaaW.PrintMore
set_option linter.unusedVariables false
set_option linter.unusedSimpArgs false

section
variable {P : Program} {ops : Array Oper} {Q : Exit → Act → World → Prop} {md : Region.Mode} {S : World → Prop} {ds : List Nat}
/-- A load (or what else yields in every world that meets S), taken first. -/
theorem tk (i N : Nat) {T : Bool × List (List Nat × List Nat)} {B : List Nat} {oi : Oper} {v : Value} {fuel : Nat} {l : Array Bool} {a : Act} {w : World} {a' : Act} (hT : Aside0 (rtab md ops = T)) (hW : Aside0 (waitsOk T.2 B = true)) (hS : S w)
    (h : wpAnyLast P md ops Q S ds fuel (l.setIfInBounds i true) a' w) (hi : ops[i]? = some oi := by exact rfl) (hN : oi.dst = some N := by exact rfl) (hc : takeW T B ds l.toList (l.setIfInBounds i true).toList i = true := by kernel_rfl)
    (hQ : ∀ c a w, Q (.panic c) (a.put oi.dst v) w → Q (.panic c) a w := by exact fun _ _ _ h => h) (hy : Region.wanted oi (yielded ops a.tmps) = true := by rfl)
    (hz : ∀ w', S w' → (execOp a.eval oi).run P w' = .ok (.value v) w' := by
      intro w' hs_
      first
        | obtain ⟨s0, s1, s2, s3, s4, s5, s6, s7⟩ := hs_
        | obtain ⟨s0, s1, s2, s3, s4, s5, s6⟩ := hs_
        | obtain ⟨s0, s1, s2, s3, s4, s5⟩ := hs_
        | obtain ⟨s0, s1, s2, s3, s4⟩ := hs_
        | obtain ⟨s0, s1, s2, s3⟩ := hs_
        | obtain ⟨s0, s1, s2⟩ := hs_
        | obtain ⟨s0, s1⟩ := hs_
        | skip
      go_simp
      with_reducible rfl)
    (ha : a.put (some N) v = a' := by simp only [Act.put, List.setIfInBounds_toArray, List.set_cons_zero, List.set_cons_succ, i64_w, i32_w]; rfl) : wpAnyLast P md ops Q S ds (fuel + 1) l a w :=
  take_ (i := i) (N := some N) (l.setIfInBounds i true) hi hN (take_ofW hT.out hW.out hc) hQ (.inl ⟨hy, hz⟩) hS ha h
end
section
variable {P : Program} {ops : Array Oper} {o : Oper} {a : Act} {Q : Exit → Act → World → Prop} {K : Act → World → Prop} {α : Type}
/-- The run of a store into cells that are there. -/
theorem st_run {W : World} (hw : Region.wanted o (yielded ops a.tmps) = true) (hN : o.dst = none) (t : TypeId) (p x : Operand) (ho : o.op = .store t p x) {g q : Nat} {e : TypeId} {cur : Array Value} {u : Value} {seg : List Value}
    (haddr : a.eval p = .pointer (some ⟨g, q, none⟩)) (hx : a.eval x = u) (hh : W.heap[g]? = some (.cells cur e (0, 0))) (hu : u.cells.toList = seg) (ht : (P.info? t).map (·.size) = some seg.length) (hfit : q + seg.length ≤ cur.size) (hone : ∀ y ∈ seg, y.oneCell' = true)
    (h : K a (W.setCells g q seg)) : if Region.wanted o (yielded ops a.tmps) = true then Oper.wp P o a W K Q else K (a.put none undef) W := by
  refine skip_ hw hN (w1 := W.setCells g q seg) ?_ h
  have hr := run_store_run (P := P) t u seg hh hu ht hfit hone
  unfold execOp
  simp only [ho, haddr, hx, Sem.run_bind, Sem.run_pure, Result.andThen_ok, hr]
theorem cell_grown {w w1 : World} {row : Option Nat} {ad : Addr} {v : Value} (h : w.cell? ad = some v) (hg : w.grownBy w1 row) (hn : some ad.block ≠ row) : w1.cell? ad = some v := by
  have := hg.block ad.block (World.block_lt_of_cell? w ad h) hn
  simpa [World.cell?, this] using h
theorem cell_alloc {W : World} {ad : Addr} {v : Value} (h : W.cell? ad = some v) (o : Obj) : (W.alloc o).cell? ad = some v := ((below_alloc (Below.refl _ _) o).cell (World.block_lt_of_cell? _ _ h)).trans h
theorem getD_of {α : Type} {P : α → Prop} {l : List α} {z : α} (h : ∀ y ∈ l, P y) (hz : P z) (n : Nat) : P (l.getD n z) := by
  rw [List.getD_eq_getElem?_getD]
  by_cases hn : n < l.length
  · rw [List.getElem?_eq_getElem hn]; exact h _ (List.getElem_mem hn)
  · rw [List.getElem?_eq_none (by omega)]; exact hz
/-- Cells of a row's element lie in its block. -/
theorem own_fits {W : World} {base : Nat} {e : TypeId} {sz g n cap : Nat} {inner : List Value} (h : W.ownsRow base e sz (.slice (some ⟨g, 0, none⟩) n cap) n inner) (i m : Nat) (hi : i < n) (hm : m ≤ sz) : ∃ cur, W.heap[g]? = some (.cells cur e (0, 0)) ∧ i * sz + m ≤ cur.size := by
  rcases h.2 with ⟨hv, _⟩ | ⟨g', cap', cur, hv, hb, hh, hnc, hcm, hcs, _⟩
  · cases hv
  injection hv with ha _ hc
  injection ha with ha
  injection ha with hg'
  subst hg'; subst hc
  refine ⟨cur, hh, ?_⟩
  have h2 : i * sz + sz ≤ n * sz := by rw [← Nat.succ_mul]; exact Nat.mul_le_mul_right _ hi
  have h3 : n * sz ≤ cap * sz := Nat.mul_le_mul_right _ (by omega)
  omega
/-- out[i].f = u, out[i] = T{..} in a drawing region. -/
theorem st_row (d : Kd α) {W : World} {base : Nat} (hw : Region.wanted o (yielded ops a.tmps) = true) (hN : o.dst = none) (t : TypeId) (p x : Operand) (ho : o.op = .store t p x) {e : TypeId} {g n cap : Nat} (i : Int) (j : Nat) {q : Nat} {xs : List α} (x' : α) {u : Value} {seg c : List Value} {ok okp : Nat → Prop}
    (haddr : a.eval p = .pointer (some ⟨g, q, none⟩)) (hq : q = i.toNat * d.sz + j) (hx : a.eval x = u) (hu : u.cells.toList = seg) (ht : (P.info? t).map (·.size) = some seg.length) (hone : ∀ y ∈ seg, y.oneCell' = true)
    (HO : d.R e W base ok (.slice (some ⟨g, 0, none⟩) n cap) xs) (h0 : 0 ≤ i) (hi : i < n) (hcl : c.length = d.sz) (hcc : ∀ j u, c[j]? = some u → W.cell? ⟨g, i.toNat * d.sz + j, none⟩ = some u) (hj : j + seg.length ≤ d.sz)
    (hM : d.M W base okp x' (c.take j ++ seg ++ c.drop (j + seg.length))) (hokp : ∀ k, okp k → ok k ∧ k ≠ g)
    (h : ∀ w1, d.R e w1 base ok (.slice (some ⟨g, 0, none⟩) n cap) (xs.set i.toNat x') → W.grownBy w1 (some g) → K a w1) : if Region.wanted o (yielded ops a.tmps) = true then Oper.wp P o a W K Q else K (a.put none undef) W := by
  obtain ⟨hrow, hg⟩ := Kd.R_seg HO i h0 hi hcl hcc hj hM hokp
  have hnx : n = xs.length := (Kd.R_reads' HO).1
  obtain ⟨inner, hown⟩ := Kd.R_own HO
  rw [← hnx] at hown
  obtain ⟨cur, hh, hfit⟩ := own_fits hown i.toNat (j + seg.length) (by omega) hj
  exact st_run hw hN t p x ho (haddr.trans (by rw [hq])) hx hh hu ht (by omega) hone (h _ hrow hg)
/-- The same in a plain region. -/
theorem st_rowL (d : Kd α) {rest : List Oper} {W : World} {base : Nat} (hN : o.dst = none) (hgd : o.guard = none) (t : TypeId) (p x : Operand) (ho : o.op = .store t p x) {e : TypeId} {g n cap : Nat} (i : Int) (j : Nat) {q : Nat} {xs : List α} (x' : α) {u : Value} {seg c : List Value} {ok okp : Nat → Prop}
    (haddr : a.eval p = .pointer (some ⟨g, q, none⟩)) (hq : q = i.toNat * d.sz + j) (hx : a.eval x = u) (hu : u.cells.toList = seg) (ht : (P.info? t).map (·.size) = some seg.length) (hone : ∀ y ∈ seg, y.oneCell' = true)
    (HO : d.R e W base ok (.slice (some ⟨g, 0, none⟩) n cap) xs) (h0 : 0 ≤ i) (hi : i < n) (hcl : c.length = d.sz) (hcc : ∀ j u, c[j]? = some u → W.cell? ⟨g, i.toNat * d.sz + j, none⟩ = some u) (hj : j + seg.length ≤ d.sz)
    (hM : d.M W base okp x' (c.take j ++ seg ++ c.drop (j + seg.length))) (hokp : ∀ k, okp k → ok k ∧ k ≠ g)
    (h : ∀ w1, d.R e w1 base ok (.slice (some ⟨g, 0, none⟩) n cap) (xs.set i.toNat x') → W.grownBy w1 (some g) → wpList P ops Q rest a w1) : wpList P ops Q (o :: rest) a W := by
  obtain ⟨hrow, hg⟩ := Kd.R_seg HO i h0 hi hcl hcc hj hM hokp
  have hnx : n = xs.length := (Kd.R_reads' HO).1
  obtain ⟨inner, hown⟩ := Kd.R_own HO
  rw [← hnx] at hown
  obtain ⟨cur, hh, hfit⟩ := own_fits hown i.toNat (j + seg.length) (by omega) hj
  refine wpList_plain hgd fun K hK => ?_
  have hr := run_store_run (P := P) (o := q) t u seg hh hu ht (by omega) hone
  unfold Oper.wp execOp
  simp only [ho, haddr, hx, Sem.run_bind, Sem.run_pure, Result.andThen_ok, hr]
  show K (a.put o.dst undef) _
  rw [hN]
  subst hq
  exact hK a _ (h _ hrow hg)
/-- A whole block is written, in a plain region. -/
theorem st_blkL {rest : List Oper} {W : World} (hN : o.dst = none) (hgd : o.guard = none) (t : TypeId) (p x : Operand) (ho : o.op = .store t p x) {g : Nat} {e : TypeId} {cs : Array Value} {u : Value} (seg : List Value)
    (haddr : a.eval p = .pointer (some ⟨g, 0, none⟩)) (hx : a.eval x = u) (hh : W.heap[g]? = some (.cells cs e (0, 0))) (hu : u.cells.toList = seg) (ht : (P.info? t).map (·.size) = some seg.length) (hsz : cs.size = seg.length) (hone : ∀ y ∈ seg, y.oneCell' = true)
    (h : ∀ w1, w1.heap[g]? = some (.cells seg.toArray e (0, 0)) → W.grownBy w1 (some g) → wpList P ops Q rest a w1) : wpList P ops Q (o :: rest) a W := by
  obtain ⟨cur', h3, h4, h5⟩ := setCells_row seg 0 W cs hh (by omega)
  obtain ⟨s1, s2, s3, s4⟩ := setCells_same g seg 0 W
  refine wpList_plain hgd fun K hK => ?_
  have hr := run_store_run (P := P) (o := 0) t u seg hh hu ht (by omega) hone
  unfold Oper.wp execOp
  simp only [ho, haddr, hx, Sem.run_bind, Sem.run_pure, Result.andThen_ok, hr]
  show K (a.put o.dst undef) _
  rw [hN]
  refine hK a _ (h _ ?_ ⟨s1, s2, s3, by rw [s4]; exact Nat.le_refl _, fun k _ hk => setCells_far seg _ k (fun he => hk (by rw [he]))⟩)
  rw [h3]
  congr 2
  apply Array.ext'
  rw [h5, List.take_zero, List.nil_append, List.drop_eq_nil_of_le (by rw [Array.length_toList]; omega), List.append_nil]
/-- The same where element i is lent: it is put back. -/
theorem st_lent (d : Kd α) {W : World} {base : Nat} (hw : Region.wanted o (yielded ops a.tmps) = true) (hN : o.dst = none) (t : TypeId) (p x : Operand) (ho : o.op = .store t p x) {e : TypeId} {g n cap : Nat} (i : Int) (j : Nat) {q : Nat} {xs : List α} (x' : α) {u : Value} {seg c : List Value} {ok oki okp : Nat → Prop}
    (haddr : a.eval p = .pointer (some ⟨g, q, none⟩)) (hq : q = i.toNat * d.sz + j) (hx : a.eval x = u) (hu : u.cells.toList = seg) (ht : (P.info? t).map (·.size) = some seg.length) (hone : ∀ y ∈ seg, y.oneCell' = true)
    (HO : Kd.H d e W base ok (.slice (some ⟨g, 0, none⟩) n cap) xs i oki c) (h0 : 0 ≤ i) (hi : i < n) (hj : j + seg.length ≤ d.sz)
    (hM : d.M W base okp x' (c.take j ++ seg ++ c.drop (j + seg.length))) (hokp : ∀ k, okp k → oki k) (hg' : ∀ k, oki k → k ≠ g)
    (h : ∀ w1, Kd.S d e w1 base ok (.slice (some ⟨g, 0, none⟩) n cap) (xs.set i.toNat x') → W.grownBy w1 (some g) → K a w1) : if Region.wanted o (yielded ops a.tmps) = true then Oper.wp P o a W K Q else K (a.put none undef) W := by
  obtain ⟨rows, _, hraw, _⟩ := Kd.H_raw HO h0 hi
  obtain ⟨h2, h3⟩ := Kd.H_seg HO h0 hi hj hone
  have hnx : n = rows.length := (Kd.R_reads' hraw).1
  obtain ⟨inner, hown⟩ := Kd.R_own hraw
  rw [← hnx] at hown
  obtain ⟨cur, hh, hfit⟩ := own_fits hown i.toNat (j + seg.length) (by omega) hj
  refine st_run hw hN t p x ho (haddr.trans (by rw [hq])) hx hh hu ht (by show i.toNat * d.sz + j + seg.length ≤ cur.size; have : (Kd.raw d.sz).sz = d.sz := rfl; rw [this] at hfit; omega) hone (h _ (Kd.H_back h2 (Kd.M_step hM (fun k hk hlt => h3.block k hlt (fun he => hg' k (hokp k hk) (by injection he)))) hokp) h3)
end

end Go.Proofs.Ythibphndihjcaaa.P
