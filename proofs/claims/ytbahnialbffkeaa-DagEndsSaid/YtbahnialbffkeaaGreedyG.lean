/- What stands in memory while dag.Greedy runs: its rows, each in a block of its own, and what a store, a push, a pop, an append leave of it. -/
import Derived.Test.YtbahnialbffkeaaHeapP
namespace Go.Proofs.Ytbahnialbffkeaa.P
open Go.RowKit Go.Proofs.YtbahnialbffkeaaW.PrintWords Go.Proofs.YtbahnialbffkeaaW.PrintLast Go.Proofs.YtbahnialbffkeaaW.PrintMore
set_option linter.unusedVariables false
abbrev RI (w' w0 : World) (v : Value) (xs : List Int) : Prop := Kd.R (Kd.int .i64) 3 w' w0.heap.size (fun k => some k = v.ownBlock) v xs
structure GI (w0 : World) (M g gd : Nat) (dc : Array Value) (vW vB vT vH vN : Value) (w' : World) (W : List Int) (B : List (List Int)) (T H N : List Int) : Prop where
  below : Below w0.heap.size w0 w'
  size : M ≤ w'.heap.size
  base : w0.heap.size ≤ M
  blk : w'.heap[g]? = some (.cells #[vH, LESS] 63 (0, 0))
  dblk : w'.heap[gd]? = some (.cells dc 26 (0, 0))
  rW : RI w' w0 vW W
  rT : RI w' w0 vT T
  rH : RI w' w0 vH H
  rN : RI w' w0 vN N
  sB : Kd.S (Kd.slice 3 (Kd.int .i64)) 33 w' w0.heap.size (fun k => k < M ∧ some k ≠ vW.ownBlock) vB B
  mW : ∀ k, vW.ownBlock = some k → k < M
  mT : ∀ k, vT.ownBlock = some k → M ≤ k
  mH : ∀ k, vH.ownBlock = some k → M ≤ k
  mN : ∀ k, vN.ownBlock = some k → M ≤ k
  mg : M ≤ g
  mgd : gd < M
  TH : ∀ k, vT.ownBlock = some k → vH.ownBlock ≠ some k
  TN : ∀ k, vT.ownBlock = some k → vN.ownBlock ≠ some k
  HN : ∀ k, vH.ownBlock = some k → vN.ownBlock ≠ some k
section
variable {w0 w' w1 : World} {M g gd : Nat} {dc : Array Value} {vW vB vT vH vN : Value} {W T H N : List Int} {B : List (List Int)}
/-- a row of which nothing is touched -/
theorem RI.keep {v : Value} {xs : List Int} (h : RI w' w0 v xs) (hm : ∀ k, v.ownBlock = some k → w1.heap[k]? = w'.heap[k]?) : RI w1 w0 v xs := Kd.R_step h (fun k hk _ => hm k hk.symm)
theorem RI.ne_g {v : Value} {xs : List Int} (h : RI w' w0 v xs) {g : Nat} {cs : Array Value} {t : TypeId} (hb : w'.heap[g]? = some (.cells cs t (0, 0))) (ht : 3 ≠ t) : ∀ k, v.ownBlock = some k → k ≠ g := fun k hk e => Kd.R_ne h hb ht (by rw [← e]; exact hk.symm)
theorem RI.nil (w' w0 : World) : RI w' w0 (.slice none 0 0) [] := Kd.R_nil _ _ _ _ _
theorem GI.drewN (h : GI w0 M g gd dc vW vB vT vH vN w' W B T H N) (m : Nat) : GI w0 M g gd dc vW vB vT vH vN (w'.drewN m) W B T H N :=
  { h with
    below := pw_below_drewN h.below m
    size := h.size
    blk := h.blk
    dblk := h.dblk
    rW := Kd.R_drewN h.rW m
    rT := Kd.R_drewN h.rT m
    rH := Kd.R_drewN h.rH m
    rN := Kd.R_drewN h.rN m
    sB := Kd.S_drewN h.sB m }
theorem GI.setW {gw n c : Nat} (h : GI w0 M g gd dc (.slice (some ⟨gw, 0, none⟩) n c) vB vT vH vN w' W B T H N) (i : Int) (x : Int) : GI w0 M g gd dc (.slice (some ⟨gw, 0, none⟩) n c) vB vT vH vN (w'.setCell ⟨gw, i.toNat, none⟩ (.int .i64 x)) (W.set i.toNat x) B T H N :=
  have hgw : gw < M := h.mW gw rfl
  have keep : ∀ k, k ≠ gw → (w'.setCell ⟨gw, i.toNat, none⟩ (.int .i64 x)).heap[k]? = w'.heap[k]? := fun k hk => Below.heap_setCell w' ⟨gw, i.toNat, none⟩ _ k hk
  { h with
    below := below_set h.below (Kd.R_base h.rW gw rfl)
    size := by rw [show (w'.setCell ⟨gw, i.toNat, none⟩ (.int .i64 x)).heap.size = w'.heap.size from by simp [World.setCell]]; exact h.size
    blk := (keep g (by have := h.mg; omega)).trans h.blk
    dblk := (keep gd (fun e => RI.ne_g h.rW h.dblk (by decide) gw rfl e.symm)).trans h.dblk
    rW := Kd.R_putn h.rW i x
    rT := h.rT.keep (fun k hk => keep k (by have := h.mT k hk; omega))
    rH := h.rH.keep (fun k hk => keep k (by have := h.mH k hk; omega))
    rN := h.rN.keep (fun k hk => keep k (by have := h.mN k hk; omega))
    sB := Kd.S_step h.sB (fun k hk _ => keep k (fun e => hk.2 (by rw [e]; rfl))) }
theorem GI.setT {gw n c : Nat} (h : GI w0 M g gd dc vW vB (.slice (some ⟨gw, 0, none⟩) n c) vH vN w' W B T H N) (i : Int) (x : Int) : GI w0 M g gd dc vW vB (.slice (some ⟨gw, 0, none⟩) n c) vH vN (w'.setCell ⟨gw, i.toNat, none⟩ (.int .i64 x)) W B (T.set i.toNat x) H N :=
  have hgw : M ≤ gw := h.mT gw rfl
  have keep : ∀ k, k ≠ gw → (w'.setCell ⟨gw, i.toNat, none⟩ (.int .i64 x)).heap[k]? = w'.heap[k]? := fun k hk => Below.heap_setCell w' ⟨gw, i.toNat, none⟩ _ k hk
  { h with
    below := below_set h.below (Kd.R_base h.rT gw rfl)
    size := by rw [show (w'.setCell ⟨gw, i.toNat, none⟩ (.int .i64 x)).heap.size = w'.heap.size from by simp [World.setCell]]; exact h.size
    blk := (keep g (fun e => RI.ne_g h.rT h.blk (by decide) gw rfl e.symm)).trans h.blk
    dblk := (keep gd (fun e => RI.ne_g h.rT h.dblk (by decide) gw rfl e.symm)).trans h.dblk
    rW := h.rW.keep (fun k hk => keep k (by have := h.mW k hk; omega))
    rT := Kd.R_putn h.rT i x
    rH := h.rH.keep (fun k hk => keep k (fun e => h.TH gw rfl (by rw [← e]; exact hk)))
    rN := h.rN.keep (fun k hk => keep k (fun e => h.TN gw rfl (by rw [← e]; exact hk)))
    sB := Kd.S_step h.sB (fun k hk _ => keep k (by have := hk.1; omega)) }
/-- the heap's row has turned: a push or a pop -/
theorem GI.turnH (h : GI w0 M g gd dc vW vB vT vH vN w' W B T H N) {v' : Value} {H' : List Int} {ok : Nat → Prop} (hok : ∀ k, ok k → some k = vH.ownBlock ∨ w'.heap.size ≤ k)
    (hblk : w1.heap[g]? = some (.cells #[v', LESS] 63 (0, 0))) (hR : Kd.R (Kd.int .i64) 3 w1 w0.heap.size ok v' H') (hB : Below w0.heap.size w0 w1) (hK : Kept w' w1 (fun k => some k = vH.ownBlock ∨ k = g)) :
    GI w0 M g gd dc vW vB vT v' vN w1 W B T H' N :=
  have own : ∀ k, v'.ownBlock = some k → vH.ownBlock = some k ∨ w'.heap.size ≤ k := fun k hk => (hok k (hR.1 k hk)).imp (fun e => e.symm) id
  have keep : ∀ k, k < w'.heap.size → vH.ownBlock ≠ some k → k ≠ g → w1.heap[k]? = w'.heap[k]? := fun k hk h1 h2 => hK.2 k hk (fun e => e.elim (fun e => h1 e.symm) h2)
  { h with
    below := hB
    size := Nat.le_trans h.size hK.1
    blk := hblk
    dblk := (keep gd (blk_lt h.dblk) (fun e => by have := h.mH gd e; have := h.mgd; omega) (by have := h.mgd; have := h.mg; omega)).trans h.dblk
    rW := h.rW.keep (fun k hk => keep k (Kd.R_lt h.rW k hk) (fun e => by have := h.mH k e; have := h.mW k hk; omega) (by have := h.mW k hk; have := h.mg; omega))
    rT := h.rT.keep (fun k hk => keep k (Kd.R_lt h.rT k hk) (h.TH k hk) (RI.ne_g h.rT h.blk (by decide) k hk))
    rH := Kd.R_mono (Kd.R_tight rfl hR) (fun _ hk => hk)
    rN := h.rN.keep (fun k hk => keep k (Kd.R_lt h.rN k hk) (fun e => h.HN k e hk) (RI.ne_g h.rN h.blk (by decide) k hk))
    sB := Kd.S_step h.sB (fun k hk hlt => keep k hlt (fun e => by have := h.mH k e; have := hk.1; omega) (by have := hk.1; have := h.mg; omega))
    mH := fun k hk => (own k hk).elim (h.mH k) (fun e => Nat.le_trans h.size e)
    TH := fun k hk e => (own k e).elim (h.TH k hk) (fun e2 => by have := Kd.R_lt h.rT k hk; omega)
    HN := fun k hk e => (own k hk).elim (fun e2 => h.HN k e2 e) (fun e2 => by have := Kd.R_lt h.rN k e; omega) }
/-- the list of those that run now has grown -/
theorem GI.turnN (h : GI w0 M g gd dc vW vB vT vH vN w' W B T H N) {v' : Value} {N' : List Int} {ok : Nat → Prop} (hok : ∀ k, ok k → some k = vN.ownBlock ∨ w'.heap.size ≤ k)
    (hR : Kd.R (Kd.int .i64) 3 w1 w0.heap.size ok v' N') (hB : Below w0.heap.size w0 w1) (hK : Kept w' w1 (fun k => some k = vN.ownBlock)) :
    GI w0 M g gd dc vW vB vT vH v' w1 W B T H N' :=
  have own : ∀ k, v'.ownBlock = some k → vN.ownBlock = some k ∨ w'.heap.size ≤ k := fun k hk => (hok k (hR.1 k hk)).imp (fun e => e.symm) id
  have keep : ∀ k, k < w'.heap.size → vN.ownBlock ≠ some k → w1.heap[k]? = w'.heap[k]? := fun k hk h1 => hK.2 k hk (fun e => h1 e.symm)
  { h with
    below := hB
    size := Nat.le_trans h.size hK.1
    blk := (keep g (blk_lt h.blk) (fun e => RI.ne_g h.rN h.blk (by decide) g e rfl)).trans h.blk
    dblk := (keep gd (blk_lt h.dblk) (fun e => RI.ne_g h.rN h.dblk (by decide) gd e rfl)).trans h.dblk
    rW := h.rW.keep (fun k hk => keep k (Kd.R_lt h.rW k hk) (fun e => by have := h.mN k e; have := h.mW k hk; omega))
    rT := h.rT.keep (fun k hk => keep k (Kd.R_lt h.rT k hk) (h.TN k hk))
    rH := h.rH.keep (fun k hk => keep k (Kd.R_lt h.rH k hk) (h.HN k hk))
    rN := Kd.R_mono (Kd.R_tight rfl hR) (fun _ hk => hk)
    sB := Kd.S_step h.sB (fun k hk hlt => keep k hlt (fun e => by have := h.mN k e; have := hk.1; omega))
    mN := fun k hk => (own k hk).elim (h.mN k) (fun e => Nat.le_trans h.size e)
    TN := fun k hk e => (own k e).elim (h.TN k hk) (fun e2 => by have := Kd.R_lt h.rT k hk; omega)
    HN := fun k hk e => (own k e).elim (h.HN k hk) (fun e2 => by have := Kd.R_lt h.rH k hk; omega) }
/-- the list of those that run now begins anew -/
theorem GI.dropN (h : GI w0 M g gd dc vW vB vT vH vN w' W B T H N) : GI w0 M g gd dc vW vB vT vH (.slice none 0 0) w' W B T H [] :=
  { h with
    rN := RI.nil _ _
    mN := fun k hk => by simp [Value.ownBlock] at hk
    TN := fun k _ hk => by simp [Value.ownBlock] at hk
    HN := fun k _ hk => by simp [Value.ownBlock] at hk }
/-- the times are made -/
theorem GI.makeT (h : GI w0 M g gd dc vW vB (.slice none 0 0) vH vN w' W B [] H N) {v' : Value} {T' : List Int} {ok : Nat → Prop} (hR : Kd.R (Kd.int .i64) 3 w1 w'.heap.size ok v' T') (hB : Below w'.heap.size w' w1) :
    GI w0 M g gd dc vW vB v' vH vN w1 W B T' H N :=
  have own : ∀ k, v'.ownBlock = some k → w'.heap.size ≤ k := fun k hk => Kd.R_base hR k hk
  { h with
    below := below_then h.below h.below.size hB
    size := Nat.le_trans h.size hB.size
    blk := blk_below h.blk hB
    dblk := blk_below h.dblk hB
    rW := h.rW.keep (fun k hk => hB.block k (Kd.R_lt h.rW k hk))
    rT := Kd.R_mono (Kd.R_tight rfl (Kd.R_lower hR h.below.size)) (fun _ hk => hk)
    rH := h.rH.keep (fun k hk => hB.block k (Kd.R_lt h.rH k hk))
    rN := h.rN.keep (fun k hk => hB.block k (Kd.R_lt h.rN k hk))
    sB := Kd.S_step h.sB (fun k _ hlt => hB.block k hlt)
    mT := fun k hk => Nat.le_trans h.size (own k hk)
    TH := fun k hk e => by have := own k hk; have := Kd.R_lt h.rH k e; omega
    TN := fun k hk e => by have := own k hk; have := Kd.R_lt h.rN k e; omega }
/-- as it begins: behind the loop over the edges, the heap's block made -/
theorem GI.start {okW : Nat → Prop} (hB0 : Below w0.heap.size w0 w') (hW : Kd.R (Kd.int .i64) 3 w' w0.heap.size okW vW W) (hS : Kd.S (Kd.slice 3 (Kd.int .i64)) 33 w' w0.heap.size (fun k => some k ≠ vW.ownBlock) vB B)
    (hd : w'.heap[gd]? = some (.cells dc 26 (0, 0))) (hB : Below w'.heap.size w' w1) (hg : g = w'.heap.size) (hblk : w1.heap[g]? = some (.cells #[.slice none 0 0, LESS] 63 (0, 0))) :
    GI w0 w'.heap.size g gd dc vW vB (.slice none 0 0) (.slice none 0 0) (.slice none 0 0) w1 W B [] [] [] where
  below := below_then hB0 hB0.size hB
  size := hB.size
  base := hB0.size
  blk := hblk
  dblk := blk_below hd hB
  rW := Kd.R_mono (Kd.R_tight rfl (Kd.R_step hW (fun k _ hlt => hB.block k hlt))) (fun _ hk => hk)
  rT := RI.nil _ _
  rH := RI.nil _ _
  rN := RI.nil _ _
  sB := Kd.S_mono (Kd.S_step (Kd.S_bound hS) (fun k _ hlt => hB.block k hlt)) (fun k hk => ⟨hk.2.2.1, hk.1⟩)
  mW := fun k hk => Kd.R_lt hW k hk
  mT := fun k hk => by simp [Value.ownBlock] at hk
  mH := fun k hk => by simp [Value.ownBlock] at hk
  mN := fun k hk => by simp [Value.ownBlock] at hk
  mg := by omega
  mgd := blk_lt hd
  TH := fun k hk => by simp [Value.ownBlock] at hk
  TN := fun k hk => by simp [Value.ownBlock] at hk
  HN := fun k hk => by simp [Value.ownBlock] at hk
/-- a row of what waits: read only -/
abbrev RB (w' w0 : World) (M : Nat) (vW v : Value) (xs : List Int) : Prop := Kd.R (Kd.int .i64) 3 w' w0.heap.size (fun k => k < M ∧ some k ≠ vW.ownBlock) v xs
theorem GI.row {go n c : Nat} (h : GI w0 M g gd dc vW (.slice (some ⟨go, 0, none⟩) n c) vT vH vN w' W B T H N) (i : Int) (h0 : 0 ≤ i) (h1 : i < n) :
    ∃ (A : Option Addr) (cr : Nat), w'.cell? ⟨go, i.toNat, none⟩ = some (.slice A (rd_L5 B i).length cr) ∧ RB w' w0 M vW (.slice A (rd_L5 B i).length cr) (rd_L5 B i) := by
  obtain ⟨oki, c, hcl, hM, hcc, _, hoki, _⟩ := Kd.S_elem h.sB [] i h0 h1
  obtain ⟨v, rfl, hv⟩ := hM
  have hc := hcc 0 _ rfl
  rw [Nat.add_zero, show (Kd.slice 3 (Kd.int .i64)).sz = 1 from rfl, Nat.mul_one] at hc
  have hv2 : RB w' w0 M vW v (rd_L5 B i) := Kd.R_mono hv (fun k hk => (hoki k hk).1)
  obtain ⟨A, cr, rfl⟩ := Kd.R_slice hv2
  exact ⟨A, cr, hc, hv2⟩
theorem GI.row_setW {gw n c : Nat} {v : Value} {xs : List Int} (hr : RB w' w0 M (.slice (some ⟨gw, 0, none⟩) n c) v xs) (p : Nat) (u : Value) : RB (w'.setCell ⟨gw, p, none⟩ u) w0 M (.slice (some ⟨gw, 0, none⟩) n c) v xs :=
  Kd.R_step hr (fun k hk _ => Below.heap_setCell w' ⟨gw, p, none⟩ u k (fun e => hk.2 (by rw [e]; rfl)))
theorem GI.row_setT {gt n c p : Nat} {v u : Value} {xs : List Int} (h : GI w0 M g gd dc vW vB (.slice (some ⟨gt, 0, none⟩) n c) vH vN w' W B T H N) (hr : RB w' w0 M vW v xs) : RB (w'.setCell ⟨gt, p, none⟩ u) w0 M vW v xs :=
  Kd.R_step hr (fun k hk _ => Below.heap_setCell w' ⟨gt, p, none⟩ u k (fun e => by have h1 := hk.1; have h2 := h.mT gt rfl; have h3 : k = gt := e; omega))
theorem GI.row_turnH {v : Value} {xs : List Int} (h : GI w0 M g gd dc vW vB vT vH vN w' W B T H N) (hr : RB w' w0 M vW v xs) (hK : Kept w' w1 (fun k => some k = vH.ownBlock ∨ k = g)) : RB w1 w0 M vW v xs :=
  Kd.R_step hr (fun k hk hlt => hK.2 k hlt (fun e => e.elim (fun e => by have := h.mH k e.symm; have := hk.1; omega) (fun e => by have := h.mg; have := hk.1; omega)))
end
end Go.Proofs.Ytbahnialbffkeaa.P
