/- races.bags: back. -/
import Derived.BigRegion
import Derived.Deep.RegionHeld3
import Derived.Deep.RegionLaw
import Derived.Test.YtkecgjmbamaejaaPARB
import Derived.Test.YtkecgjmbamaejaaPARD
set_option linter.unusedVariables false
set_option linter.unusedSimpArgs false
namespace Go.Proofs.Ytkecgjmbamaejaa.P
open Go.RowKit Go.Proofs.YtkecgjmbamaejaaW.PrintWords Go.Proofs.YtkecgjmbamaejaaW.PrintLast Go.Proofs.YtkecgjmbamaejaaW.PrintMore
set_option linter.unusedVariables false

theorem EB (t : Nat) (h : 4 ≠ t) : ∀ q, q ∈ 4 :: Kd.bool.E → q ≠ t := by
  intro q hq
  rw [show Kd.bool.E = [] from rfl, List.mem_singleton] at hq
  rw [hq]; exact h
structure BT (w W : World) (gb : Nat) (vu vs : Value) (up : List Int) (side : List Bool) : Prop where
  below : Below w.heap.size w W
  bb : W.heap[gb]? = some (.cells #[vu, vs] 80 (0, 0))
  nb : w.heap.size ≤ gb
  ru : Kd.R (Kd.int .i64) 3 W w.heap.size (fun _ => True) vu up
  rs : Kd.R Kd.bool 4 W w.heap.size (fun _ => True) vs side
section
variable {w W W1 : World} {gb gu gs cu cs : Nat} {vu vs : Value} {up : List Int} {side : List Bool}
theorem BT.step (h : BT w W gb vu vs up side) (k : Below W.heap.size W W1) : BT w W1 gb vu vs up side :=
  ⟨below_step h.below k, blk_below h.bb k, h.nb, Kd.R_below h.ru k, Kd.R_below h.rs k⟩
theorem BT.drew (h : BT w W gb vu vs up side) : BT w W.drew gb vu vs up side := h.step (below_drew (Below.refl _ _))
theorem BT.drewN (h : BT w W gb vu vs up side) (n : Nat) : BT w (W.drewN n) gb vu vs up side := h.step (pw_below_drewN (Below.refl _ _) n)
theorem BT.alloc (h : BT w W gb vu vs up side) (o : Obj) : BT w (W.alloc o) gb vu vs up side := h.step (below_alloc (Below.refl _ _) o)
theorem BT.cells (h : BT w W gb vu vs up side) : (∀ j, W.cell? ⟨gb, j, none⟩ = #[vu, vs][j]?) ∧ ∀ j, W.frozen? ⟨gb, j, none⟩ = false := ⟨fun j => blk_cell h.bb j, fun j => blk_frozen h.bb j⟩
theorem BT.apart (h : BT w W gb vu vs up side) : ∀ k, some k = vs.ownBlock → some k ≠ vu.ownBlock := by
  intro k hk hu
  obtain ⟨c1, e1⟩ := Kd.R_typed h.rs k hk.symm
  obtain ⟨c2, e2⟩ := Kd.R_typed h.ru k hu.symm
  exact blk_ne e1 e2 (by decide) rfl
theorem rd_some {l : List Int} {x : Nat} {u : Int} (h : l[x]? = some u) : rdOf 0 l (x : Int) = u := by
  unfold rdOf
  rw [Int.toNat_natCast, List.getD_eq_getElem?_getD, h]
  rfl
theorem BT.at_ (h : BT w W gb (.slice (some ⟨gu, 0, none⟩) up.length cu) vs up side) {x : Nat} {u : Int} (hx : up[x]? = some u) : W.cell? ⟨gu, x, none⟩ = some (.int .i64 u) ∧ W.frozen? ⟨gu, x, none⟩ = false := by
  have hl := (List.getElem?_eq_some_iff.1 hx).1
  have := Kd.R_cell 0 h.ru (x : Int) (by omega) (by omega)
  rwa [Int.toNat_natCast, rd_some hx] at this
theorem BT.setu (h : BT w W gb (.slice (some ⟨gu, 0, none⟩) up.length cu) vs up side) (x : Nat) (v : Int) : BT w (W.setCell ⟨gu, x, none⟩ (.int .i64 v)) gb (.slice (some ⟨gu, 0, none⟩) up.length cu) vs (up.set x v) side := by
  have hb := Kd.R_base h.ru gu rfl
  obtain ⟨c1, e1⟩ := Kd.R_typed h.ru gu rfl
  have h1 := Kd.R_put h.ru (x : Int) v
  rw [Int.toNat_natCast] at h1
  refine ⟨below_set h.below hb, blk_far h.bb (p := ⟨gu, x, none⟩) (blk_ne h.bb e1 (by decide)) _, h.nb, h1.1, ?_⟩
  exact Kd.R_mono (Kd.R_grown (Kd.R_tight rfl h.rs) h1.2 (fun k hk he => h.apart k hk he)) (fun _ _ => trivial)
theorem BT.form (h : BT w W gb vu vs up side) (hl : 0 < up.length) : ∃ gu cu, vu = .slice (some ⟨gu, 0, none⟩) up.length cu ∧ gu ≠ gb := by
  obtain ⟨g, c, rfl, -⟩ := Kd.R_form h.ru hl
  obtain ⟨c1, e1⟩ := Kd.R_typed h.ru g rfl
  exact ⟨g, c, rfl, blk_ne e1 h.bb (by decide)⟩
end
/-- the depth that a halving keeps -/
def Dp (dp : Nat → Nat) (up : List Int) : Prop := ∀ x (u : Nat), up[x]? = some (u : Int) → u ≠ x → dp u < dp x
theorem Dp.halve {dp : Nat → Nat} {up : List Int} (hd : Dp dp up) {x u v : Nat} (hx : up[x]? = some (u : Int)) (hu : up[u]? = some (v : Int)) (hne : u ≠ x) : Dp dp (up.set x (v : Int)) ∧ dp v < dp x := by
  have h1 := hd _ _ hx hne
  have h2 : dp v ≤ dp u := by
    by_cases e : v = u
    · rw [e]; exact Nat.le_refl _
    · exact Nat.le_of_lt (hd _ _ hu e)
  refine ⟨fun y w hw hne2 => ?_, by omega⟩
  have hxl := (List.getElem?_eq_some_iff.1 hx).1
  by_cases e : x = y
  · subst e
    rw [List.getElem?_set_self hxl] at hw
    injection hw with hw
    obtain rfl : v = w := by omega
    omega
  · rw [List.getElem?_set_ne e] at hw
    exact hd y w hw hne2
theorem kept_set {W1 W : World} {S : Nat → Prop} (h : Kept W1 W S) {p : Addr} (hp : S p.block ∨ W1.heap.size ≤ p.block) (v : Value) : Kept W1 (W.setCell p v) S := by
  refine ⟨Nat.le_trans h.1 (by simp), fun i hi hn => ?_⟩
  rw [← h.2 i hi hn]
  refine Below.heap_setCell W p v i (fun e => ?_)
  rcases hp with hp | hp
  · exact hn (e ▸ hp)
  · omega
end Go.Proofs.Ytkecgjmbamaejaa.P
namespace Go.Proofs.Ytkecgjmbamaejaa.P
open Go.RowKit Go.Proofs.YtkecgjmbamaejaaW.PrintWords Go.Proofs.YtkecgjmbamaejaaW.PrintLast Go.Proofs.YtkecgjmbamaejaaW.PrintMore
set_option linter.unusedVariables false
set_option linter.unusedSimpArgs false
set_option maxHeartbeats 1000000
set_option maxRecDepth 100000
section
variable {w W : World} {gb gu n cu : Nat} {vu vs : Value} {up : List Int} {side : List Bool}
theorem BT.at' (h : BT w W gb (.slice (some ⟨gu, 0, none⟩) n cu) vs up side) (hn : up.length = n) {x : Nat} {u : Int} (hx : up[x]? = some u) : W.cell? ⟨gu, x, none⟩ = some (.int .i64 u) ∧ W.frozen? ⟨gu, x, none⟩ = false := by
  subst hn; exact h.at_ hx
theorem BT.set' (h : BT w W gb (.slice (some ⟨gu, 0, none⟩) n cu) vs up side) (hn : up.length = n) (x : Nat) (v : Int) : BT w (W.setCell ⟨gu, x, none⟩ (.int .i64 v)) gb (.slice (some ⟨gu, 0, none⟩) n cu) vs (up.set x v) side := by
  subst hn; exact h.setu x v
end
/-- what a way to the root leaves -/
def RootPost (w W : World) (gb : Nat) (vu vs : Value) (up : List Int) (side : List Bool) (rt : Nat → Nat) (r : Nat) (e : Ending) (W' : World) : Prop :=
  e = .returned (.int .i64 (r : Int)) ∧ ∃ up', UF up' rt ∧ up'.length = up.length ∧ BT w W' gb vu vs up' side ∧ Kept W W' (fun k => some k = vu.ownBlock)
theorem root_calls {w W : World} {gb : Nat} {vu vs : Value} {up : List Int} {side : List Bool} {rt : Nat → Nat} {x : Nat} (H : BT w W gb vu vs up side) (U : UF up rt) (hx : x < up.length) (hb : up.length ≤ 8388608) :
    Calls Try.prog 62 #[.pointer (some ⟨gb, 0, none⟩), .int .i64 (x : Int)] W (RootPost w W gb vu vs up side rt (rt x)) := by
  obtain ⟨gu, cu, rfl, hne⟩ := H.form (by omega)
  obtain ⟨dp, hdp⟩ := U.deep
  obtain ⟨n, hn⟩ : ∃ n, up.length = n := ⟨_, rfl⟩
  rw [hn] at H hx hb ⊢
  have HB := Aside0.mk H
  have HU := Aside0.mk U
  have HD := Aside0.mk (show Dp dp up from hdp)
  have HX := Aside0.mk (And.intro hx hn)
  have HN := Aside0.mk hb
  have HN0 := Aside0.mk hn
  have HK := Aside0.mk (Kept.refl W (fun k => some k = (Value.slice (some ⟨gu, 0, none⟩) n cu).ownBlock))
  have hu78 := Try.underlying78
  have hu80 := Try.underlying80
  have hu24 := Try.underlying24
  clear H U hx hb hdp hn
  go_enter Try.func62, Try.ntmps62
  go_wp2_with (first | fail)
  go_loopg [1] (dp x + 1) (fun kq v1 w' => ∃ (x' : Nat) (up' : List Int), v1 = .int .i64 (x' : Int) ∧ Aside0 (dp x' < kq) ∧ Aside0 (x' < n ∧ up'.length = n) ∧ Aside0 (rt x' = rt x) ∧ Aside0 (UF up' rt) ∧ Aside0 (Dp dp up') ∧ Aside0 (BT w w' gb (.slice (some ⟨gu, 0, none⟩) n cu) vs up' side) ∧ Aside0 (Kept W w' (fun k => some k = (Value.slice (some ⟨gu, 0, none⟩) n cu).ownBlock)))
  case atStart => exact ⟨x, up, rfl, ⟨Nat.lt_succ_self _⟩, HX, ⟨rfl⟩, HU, HD, HB, HK⟩
  case round =>
    clear HB HU HD HX HK
    obtain ⟨x', up', rfl, HM, HX, HR, HU, HD, HB, HK⟩ := hrel
    obtain ⟨u, e1, e2, e3, e4⟩ := HU.out.step x' (by rw [HX.out.2]; exact HX.out.1)
    have hx0 : (x' : Int) < (n : Int) := by have := HX.out.1; omega
    have hn0 : (n : Int) ≤ 8388608 := by have := HN.out; omega
    by_cases hux : u = x'
    · subst hux
      have hr := HR.out
      rw [e4.1 rfl] at hr
      have HRR := Aside0.mk hr
      clear hr
      have hf := HB.out.cells
      have hc := HB.out.at' HX.out.2 e1
      clear e1 e2 e3 e4
      go_wp2_with (first | fail)
      exact bodyPost_end (v := .int .i64 (u : Int)) (by simp [results, Try.results62, go_sem]) rfl ⟨by rw [HRR.out], up', HU.out, by rw [HX.out.2, HN0.out], HB.out, HK.out⟩

    · obtain ⟨v, f1, f2, f3, f4⟩ := HU.out.step u e2
      have hu0 : (u : Int) < (n : Int) := by have := HX.out.2; omega
      have hv0 : (v : Int) < (n : Int) := by have := HX.out.2; omega
      have hne1 : ((u : Int) != (x' : Int)) = true := bne_iff_ne.mpr (by omega)
      have hne2 : ¬ (u : Int) = (x' : Int) := by omega
      obtain ⟨d1, d2⟩ := HD.out.halve e1 f1 hux
      have HD1 := Aside0.mk d1
      have HU1 := Aside0.mk (HU.out.halve e1 f1 hux)
      have HM1 : Aside0 (dp v < dp x') := ⟨d2⟩
      have HR1 : Aside0 (rt v = rt x) := ⟨f3.trans (e3.trans HR.out)⟩
      have hf := HB.out.cells
      have hc := HB.out.at' HX.out.2 e1
      have hd := HB.out.at' HX.out.2 f1
      clear e1 e2 e3 e4 f1 f2 f3 f4 d1 d2
      go_wp2_with (first | fail)
      go_region
      generalize hwt : World.drew _ = w4
      have HB1 : Aside0 (BT w w4 gb (.slice (some ⟨gu, 0, none⟩) n cu) vs (up'.set x' (v : Int)) side) := ⟨by
        rw [← hwt]
        first | exact (HB.out.set' HX.out.2 x' (v : Int)).drew | exact HB.out.drew.set' HX.out.2 x' (v : Int) | exact (HB.out.drew.set' HX.out.2 x' (v : Int)).drew⟩
      have HK1 : Aside0 (Kept W w4 (fun k => some k = (Value.slice (some ⟨gu, 0, none⟩) n cu).ownBlock)) := ⟨by
        rw [← hwt]
        exact kept_set (p := ⟨gu, x', none⟩) HK.out (.inl rfl) (.int .i64 (v : Int))⟩
      clear hwt HB HK HU HD hf hc hd
      have hf := HB1.out.cells
      have hc := HB1.out.at' (by rw [List.length_set]; exact HX.out.2) (x := x') (u := (v : Int)) (by rw [List.getElem?_set_self]; rw [HX.out.2]; exact HX.out.1)
      go_wp2_with (first | fail)
      go_roundg (dp x')
      case measure => exact HM.out
      case rel => exact ⟨v, _, rfl, HM1, ⟨by omega, by rw [List.length_set]; exact HX.out.2⟩, HR1, HU1, HD1, HB1, HK1⟩
end Go.Proofs.Ytkecgjmbamaejaa.P
namespace Go.Proofs.Ytkecgjmbamaejaa.P
open Go.RowKit Go.Proofs.YtkecgjmbamaejaaW.PrintWords Go.Proofs.YtkecgjmbamaejaaW.PrintLast Go.Proofs.YtkecgjmbamaejaaW.PrintMore
set_option linter.unusedVariables false
set_option linter.unusedSimpArgs false
set_option maxHeartbeats 1000000
set_option maxRecDepth 100000
theorem kept_trans {A B C : World} {S : Nat → Prop} (h : Kept A B S) (k : Kept B C S) : Kept A C S :=
  ⟨Nat.le_trans h.1 k.1, fun i hi hn => (k.2 i (Nat.lt_of_lt_of_le hi h.1) hn).trans (h.2 i hi hn)⟩
/-- what the bags' own functions leave: other roots -/
def JoinPost (w W : World) (gb : Nat) (vu vs : Value) (n : Nat) (side : List Bool) (rt : Nat → Nat) (e : Ending) (W' : World) : Prop :=
  e = .returned (.tuple #[]) ∧ ∃ up', UF up' rt ∧ up'.length = n ∧ BT w W' gb vu vs up' side ∧ Kept W W' (fun k => some k = vu.ownBlock)
theorem root_calls' {w W : World} {gb n : Nat} {vu vs : Value} {up : List Int} {side : List Bool} {rt : Nat → Nat} {x : Nat} (H : BT w W gb vu vs up side) (U : UF up rt) (hn : up.length = n) (hx : x < n) (hb : n ≤ 8388608) :
    Calls Try.prog 62 #[.pointer (some ⟨gb, 0, none⟩), .int .i64 (x : Int)] W fun e W' => e = .returned (.int .i64 (rt x : Int)) ∧ ∃ up', UF up' rt ∧ up'.length = n ∧ BT w W' gb vu vs up' side ∧ Kept W W' (fun k => some k = vu.ownBlock) := by
  subst hn
  exact root_calls H U hx hb
theorem join_calls {w W : World} {gb n : Nat} {vu vs : Value} {up : List Int} {side : List Bool} {rt : Nat → Nat} {x y : Nat} (H : BT w W gb vu vs up side) (U : UF up rt) (hn : up.length = n) (hx : x < n) (hy : y < n) (hb : n ≤ 8388608) :
    Calls Try.prog 63 #[.pointer (some ⟨gb, 0, none⟩), .int .i64 (x : Int), .int .i64 (y : Int)] W (JoinPost w W gb vu vs n side (fun z => if rt z = rt y then rt x else rt z)) := by
  have HB := Aside0.mk H
  have HU := Aside0.mk U
  have HX := Aside0.mk hx
  have HY := Aside0.mk hy
  have HL := Aside0.mk hn
  have HN := Aside0.mk hb
  have hu78 := Try.underlying78
  have hu80 := Try.underlying80
  have hu24 := Try.underlying24
  obtain ⟨gu, cu, hv, hne⟩ := H.form (by omega)
  rw [hn] at hv
  subst hv
  have hlx := U.lt x (by omega)
  have hly := U.lt y (by omega)
  have RX := Aside0.mk (U.idem x (by omega))
  have RY := Aside0.mk (U.idem y (by omega))
  obtain ⟨rx, hrx⟩ : ∃ r, rt x = r := ⟨_, rfl⟩
  obtain ⟨ry, hry⟩ : ∃ r, rt y = r := ⟨_, rfl⟩
  have RX1 := Aside0.mk hrx
  have RY1 := Aside0.mk hry
  rw [hrx] at hlx ⊢
  rw [hry] at hly ⊢
  have LX : Aside0 (rx < n) := ⟨by omega⟩
  have LY : Aside0 (ry < n) := ⟨by omega⟩
  clear H U hx hy hn hb hlx hly hrx hry
  rw [RX1.out] at RX
  rw [RY1.out] at RY
  by_cases hxy : rx = ry
  · subst hxy
    go_enter Try.func63, Try.ntmps63
    go_wp2_with (first
      | (go_at_call 62; (first | (with_reducible refine (root_calls' (x := x) HB.out HU.out HL.out HX.out HN.out).mono ?_) | (with_reducible refine (root_calls' (x := x) HB.out.drew HU.out HL.out HX.out HN.out).mono ?_)); rintro e_ w_ ⟨rfl, up1, hu1, hl1, hb1, hk1⟩; rw [RX1.out]; have HB1 := Aside0.mk hb1; have HU1 := Aside0.mk hu1; have HL1 := Aside0.mk hl1; have HK := Aside0.mk hk1; clear HB HU HL hb1 hu1 hl1 hk1)
      | (go_at_call 62; (first | (with_reducible refine (root_calls' (x := y) HB1.out HU1.out HL1.out HY.out HN.out).mono ?_) | (with_reducible refine (root_calls' (x := y) HB1.out.drew HU1.out HL1.out HY.out HN.out).mono ?_)); rintro e_ w_ ⟨rfl, up2, hu2, hl2, hb2, hk2⟩; rw [RY1.out]; have HB2 := Aside0.mk hb2; have HU2 := Aside0.mk hu2; have HL2 := Aside0.mk hl2; have HK2 := Aside0.mk (kept_trans HK.out hk2); clear HB1 HU1 HL1 hb2 hu2 hl2 hk2))
    go_end0
    refine ⟨rfl, up2, ?_, HL2.out, HB2.out, HK2.out⟩
    have e : (fun z => if rt z = rx then rx else rt z) = rt := by
      funext z
      by_cases h : rt z = rx
      · rw [if_pos h, h]
      · rw [if_neg h]
    rw [e]
    exact HU2.out
  · have hxy1 : ((rx : Int) != (ry : Int)) = true := bne_iff_ne.mpr (by omega)
    have hxy2 : ¬ (rx : Int) = (ry : Int) := by omega
    have HXY := Aside0.mk hxy
    have hyn : (ry : Int) < (n : Int) := by have := LY.out; omega
    have hn0 : (n : Int) ≤ 8388608 := by have := HN.out; omega
    clear hxy
    go_enter Try.func63, Try.ntmps63
    go_wp2_with (first
      | (go_at_call 62; (first | (with_reducible refine (root_calls' (x := x) HB.out HU.out HL.out HX.out HN.out).mono ?_) | (with_reducible refine (root_calls' (x := x) HB.out.drew HU.out HL.out HX.out HN.out).mono ?_)); rintro e_ w_ ⟨rfl, up1, hu1, hl1, hb1, hk1⟩; rw [RX1.out]; have HB1 := Aside0.mk hb1; have HU1 := Aside0.mk hu1; have HL1 := Aside0.mk hl1; have HK := Aside0.mk hk1; clear HB HU HL hb1 hu1 hl1 hk1)
      | (go_at_call 62; (first | (with_reducible refine (root_calls' (x := y) HB1.out HU1.out HL1.out HY.out HN.out).mono ?_) | (with_reducible refine (root_calls' (x := y) HB1.out.drew HU1.out HL1.out HY.out HN.out).mono ?_)); rintro e_ w_ ⟨rfl, up2, hu2, hl2, hb2, hk2⟩; rw [RY1.out]; have HB2 := Aside0.mk hb2; have HU2 := Aside0.mk hu2; have HL2 := Aside0.mk hl2; have HK2 := Aside0.mk (kept_trans HK.out hk2); clear HB1 HU1 HL1 hb2 hu2 hl2 hk2; have hf := HB2.out.cells; obtain ⟨u, e1, e2, e3, e4⟩ := HU2.out.step ry (by rw [HL2.out]; exact LY.out); have hc := HB2.out.at' HL2.out e1; clear e1 e2 e3 e4))
    go_end0
    exact ⟨rfl, up2.set ry (rx : Int), HU2.out.join (by rw [HL2.out]; exact LX.out) (by rw [HL2.out]; exact LY.out) RX.out RY.out HXY.out, by rw [List.length_set]; exact HL2.out, HB2.out.set' HL2.out ry (rx : Int), kept_set (p := ⟨gu, ry, none⟩) HK2.out (.inl rfl) (.int .i64 (rx : Int))⟩
end Go.Proofs.Ytkecgjmbamaejaa.P
namespace Go.Proofs.Ytkecgjmbamaejaa.P
open Go.RowKit Go.Proofs.YtkecgjmbamaejaaW.PrintWords Go.Proofs.YtkecgjmbamaejaaW.PrintLast Go.Proofs.YtkecgjmbamaejaaW.PrintMore
set_option linter.unusedVariables false
set_option linter.unusedSimpArgs false
set_option maxHeartbeats 1000000
set_option maxRecDepth 100000
theorem BT.forms {w W : World} {gb : Nat} {vu vs : Value} {up : List Int} {side : List Bool} (h : BT w W gb vu vs up side) (hl : 0 < side.length) : ∃ gs cs, vs = .slice (some ⟨gs, 0, none⟩) side.length cs ∧ gs ≠ gb := by
  obtain ⟨g, c, rfl, -⟩ := Kd.R_form h.rs hl
  obtain ⟨c1, e1⟩ := Kd.R_typed h.rs g rfl
  exact ⟨g, c, rfl, blk_ne e1 h.bb (by decide)⟩
/-- a row's roots, other ways to them -/
def Roots (w W W' : World) (gb : Nat) (vu vs : Value) (n : Nat) (side : List Bool) (rt : Nat → Nat) : Prop :=
  ∃ up', UF up' rt ∧ up'.length = n ∧ BT w W' gb vu vs up' side ∧ Kept W W' (fun k => some k = vu.ownBlock)
theorem kept_drew {A B : World} {S : Nat → Prop} (h : Kept A B S) : Kept A B.drew S := h
theorem Roots.drew {w W W' : World} {gb : Nat} {vu vs : Value} {n : Nat} {side : List Bool} {rt : Nat → Nat} (h : Roots w W W' gb vu vs n side rt) : Roots w W W'.drew gb vu vs n side rt := by
  obtain ⟨up', h1, h2, h3, h4⟩ := h
  exact ⟨up', h1, h2, h3.drew, kept_drew h4⟩
theorem Roots.cells {w W W' : World} {gb gs n cs : Nat} {vu : Value} {side : List Bool} {rt : Nat → Nat} {x : Nat} {b : Bool} (h : Roots w W W' gb vu (.slice (some ⟨gs, 0, none⟩) n cs) n side rt) (hn : side.length = n) (hx : side[x]? = some b) :
    ((∀ j, W'.cell? ⟨gb, j, none⟩ = #[vu, Value.slice (some ⟨gs, 0, none⟩) n cs][j]?) ∧ W'.cell? ⟨gs, x, none⟩ = some (.bool b)) ∧ Aside0 (Roots w W W' gb vu (.slice (some ⟨gs, 0, none⟩) n cs) n side rt) := by
  refine ⟨?_, ⟨h⟩⟩
  obtain ⟨up', h1, h2, h3, h4⟩ := h
  subst hn
  refine ⟨h3.cells.1, ?_⟩
  have hl := (List.getElem?_eq_some_iff.1 hx).1
  have := (Kd.R_cell false h3.rs (x : Int) (by omega) (by omega)).1
  rw [Int.toNat_natCast] at this
  have e : rdOf false side (x : Int) = b := by
    unfold rdOf
    rw [Int.toNat_natCast, List.getD_eq_getElem?_getD, hx]
    rfl
  rwa [e] at this
theorem root_roots {w W W' : World} {gb : Nat} {vu vs : Value} {n : Nat} {side : List Bool} {rt : Nat → Nat} {x rx : Nat} (h : Roots w W W' gb vu vs n side rt) (hx : x < n) (hb : n ≤ 8388608) (hr : rt x = rx) :
    Calls Try.prog 62 #[.pointer (some ⟨gb, 0, none⟩), .int .i64 (x : Int)] W' fun e W2 => e = .returned (.int .i64 (rx : Int)) ∧ Roots w W W2 gb vu vs n side rt := by
  obtain ⟨up', h1, h2, h3, h4⟩ := h
  refine (root_calls' h3 h1 h2 hx hb).mono ?_
  rintro e W2 ⟨rfl, up2, k1, k2, k3, k4⟩
  exact ⟨by rw [hr], up2, k1, k2, k3, kept_trans h4 k4⟩
theorem beside_neg {w W : World} {gb n : Nat} {vu vs : Value} {side : List Bool} {rt : Nat → Nat} {x : Int} (H : Roots w W W gb vu vs n side rt) (hx : x < 0) :
    Calls Try.prog 59 #[.pointer (some ⟨gb, 0, none⟩), .int .i64 x] W fun e W' => e = .returned (.bool false) ∧ Roots w W W' gb vu vs n side rt := by
  have HR := Aside0.mk H
  clear H
  have c0 : decide (x ≥ 0) = false := decide_eq_false (by omega)
  have c1 : decide (0 ≤ x) = false := decide_eq_false (by omega)
  clear hx
  go_enter Try.func59, Try.ntmps59
  go_wp2_with (first | fail)
  go_region
  go_wp2_with (first | fail)
  go_ret
  exact ⟨rfl, HR.out.drew⟩
theorem beside_nat {w W : World} {gb n : Nat} {vu vs : Value} {side : List Bool} {rt : Nat → Nat} {x : Nat} {b : Bool} (H : Roots w W W gb vu vs n side rt) (hx : x < n) (hn : side.length = n) (hb : n ≤ 8388608) (hs : side[rt x]? = some b) :
    Calls Try.prog 59 #[.pointer (some ⟨gb, 0, none⟩), .int .i64 (x : Int)] W fun e W' => e = .returned (.bool b) ∧ Roots w W W' gb vu vs n side rt := by
  obtain ⟨gs, cs, hv, hne⟩ : ∃ gs cs, vs = .slice (some ⟨gs, 0, none⟩) n cs ∧ gs ≠ gb := by
    obtain ⟨up', h1, h2, h3, h4⟩ := H
    have := h3.forms (by omega)
    rwa [hn] at this
  subst hv
  obtain ⟨rx, hrx⟩ : ∃ r, rt x = r := ⟨_, rfl⟩
  rw [hrx] at hs
  have hrn : rx < n := by have := (List.getElem?_eq_some_iff.1 hs).1; omega
  have c0 : decide ((x : Int) ≥ 0) = true := decide_eq_true (by omega)
  have hrn1 : (rx : Int) < (n : Int) := by omega
  have hn0 : (n : Int) ≤ 8388608 := by omega
  have HR := Aside0.mk H
  have HX := Aside0.mk hx
  have HN := Aside0.mk hn
  have HB := Aside0.mk hb
  have HS := Aside0.mk hs
  have HRX := Aside0.mk hrx
  have hf := (H.cells hn hs).1
  have hu78 := Try.underlying78
  have hu80 := Try.underlying80
  have hu66 := Try.underlying66
  clear H hx hn hb hs hrx hrn
  go_enter Try.func59, Try.ntmps59
  go_wp2_with (first | fail)
  go_region_held3 (fun W' => ((∀ j, W'.cell? ⟨gb, j, none⟩ = #[vu, Value.slice (some ⟨gs, 0, none⟩) n cs][j]?) ∧ W'.cell? ⟨gs, rx, none⟩ = some (.bool b)) ∧ Aside0 (Roots w W W' gb vu (.slice (some ⟨gs, 0, none⟩) n cs) n side rt)) (first | exact Roots.cells HR.out.drew HN.out HS.out | exact Roots.cells HR.out HN.out HS.out | exact Roots.cells (Roots.drew HR.out) HN.out HS.out) (first | (go_at_call 62; (first | (with_reducible refine (root_roots HR.out.drew HX.out HB.out HRX.out).mono ?_) | (with_reducible refine (root_roots HR.out HX.out HB.out HRX.out).mono ?_)); rintro e_ wq_ ⟨rfl, hq_⟩; have HRn := Aside0.mk hq_; clear HR hq_; have HR := HRn; clear HRn))
  go_wp2_with (first | fail)
  go_ret
  exact ⟨rfl, HR.out⟩
end Go.Proofs.Ytkecgjmbamaejaa.P
namespace Go.Proofs.Ytkecgjmbamaejaa.P
open Go.RowKit Go.Proofs.YtkecgjmbamaejaaW.PrintWords Go.Proofs.YtkecgjmbamaejaaW.PrintLast Go.Proofs.YtkecgjmbamaejaaW.PrintMore
set_option linter.unusedVariables false
set_option linter.unusedSimpArgs false
set_option maxHeartbeats 1000000
set_option maxRecDepth 100000
/-- a task's record: in a box, or an element of the open ones -/
structure TK (W : World) (gt off : Nat) (a b : Int) : Prop where
  c0 : W.cell? ⟨gt, off, none⟩ = some (.int .i64 a)
  c1 : W.cell? ⟨gt, off + 1, none⟩ = some (.int .i64 b)
  f0 : W.frozen? ⟨gt, off, none⟩ = false
  f1 : W.frozen? ⟨gt, off + 1, none⟩ = false
  ty : ∃ cs, W.heap[gt]? = some (.cells cs 83 (0, 0))
theorem TK.block {W W' : World} {gt off : Nat} {a b : Int} (h : TK W gt off a b) (e : W'.heap[gt]? = W.heap[gt]?) : TK W' gt off a b := by
  obtain ⟨cs, hc⟩ := h.ty
  exact ⟨(World.cell?_of_block (a := ⟨gt, off, none⟩) e).trans h.c0, (World.cell?_of_block (a := ⟨gt, off + 1, none⟩) e).trans h.c1, (World.frozen?_of_block (a := ⟨gt, off, none⟩) e).trans h.f0, (World.frozen?_of_block (a := ⟨gt, off + 1, none⟩) e).trans h.f1, cs, e.trans hc⟩
theorem TK.drew {W : World} {gt off : Nat} {a b : Int} (h : TK W gt off a b) : TK W.drew gt off a b := h.block rfl
theorem TK.cells {W : World} {gt off : Nat} {a b : Int} (h : TK W gt off a b) : W.cell? ⟨gt, off, none⟩ = some (.int .i64 a) ∧ W.cell? ⟨gt, off + 1, none⟩ = some (.int .i64 b) := ⟨h.c0, h.c1⟩
theorem TK.kept {W W' : World} {gt off : Nat} {a b : Int} {S : Nat → Prop} (h : TK W gt off a b) (hk : Kept W W' S) (hn : ¬ S gt) : TK W' gt off a b := by
  obtain ⟨cs, hc⟩ := h.ty
  exact h.block (hk.2 gt (blk_lt hc) hn)
theorem TK.ne {w W : World} {gb gt off : Nat} {vu vs : Value} {up : List Int} {side : List Bool} {a b : Int} (h : TK W gt off a b) (H : BT w W gb vu vs up side) : gt ≠ gb ∧ some gt ≠ vu.ownBlock ∧ some gt ≠ vs.ownBlock := by
  obtain ⟨cs, hc⟩ := h.ty
  refine ⟨blk_ne hc H.bb (by decide), fun he => ?_, fun he => ?_⟩
  · obtain ⟨c2, e2⟩ := Kd.R_typed H.ru gt he.symm
    exact blk_ne hc e2 (by decide) rfl
  · obtain ⟨c2, e2⟩ := Kd.R_typed H.rs gt he.symm
    exact blk_ne hc e2 (by decide) rfl
theorem join_roots {w W W' : World} {gb : Nat} {vu vs : Value} {n : Nat} {side : List Bool} {rt : Nat → Nat} {x y : Nat} (h : Roots w W W' gb vu vs n side rt) (hx : x < n) (hy : y < n) (hb : n ≤ 8388608) :
    Calls Try.prog 63 #[.pointer (some ⟨gb, 0, none⟩), .int .i64 (x : Int), .int .i64 (y : Int)] W' fun e W2 => e = .returned (.tuple #[]) ∧ Roots w W W2 gb vu vs n side (fun z => if rt z = rt y then rt x else rt z) := by
  obtain ⟨up', h1, h2, h3, h4⟩ := h
  refine (join_calls h3 h1 h2 hx hy hb).mono ?_
  rintro e W2 ⟨rfl, up2, k1, k2, k3, k4⟩
  exact ⟨rfl, up2, k1, k2, k3, kept_trans h4 k4⟩
theorem wait_neg {W : World} {gb gt off : Nat} {a b : Int} (T : TK W gt off a b) (hb : b < 0) :
    Calls Try.prog 58 #[.pointer (some ⟨gb, 0, none⟩), .pointer (some ⟨gt, off, none⟩)] W fun e W' => e = .returned (.tuple #[]) ∧ W' = W := by
  have HT := Aside0.mk T
  have hc := T.c1
  have c0 : decide (b ≥ 0) = false := decide_eq_false (by omega)
  have c1 : decide (0 ≤ b) = false := decide_eq_false (by omega)
  have hu86 := Try.underlying86
  have hu83 := Try.underlying83
  clear T hb
  go_enter Try.func58, Try.ntmps58
  go_wp2_with (first | fail)
  go_end0
  exact ⟨rfl, rfl⟩
theorem wait_nat {w W : World} {gb n gt off : Nat} {vu vs : Value} {side : List Bool} {rt : Nat → Nat} {x y : Nat} (H : Roots w W W gb vu vs n side rt) (T : TK W gt off (x : Int) (y : Int)) (hx : x < n) (hy : y < n) (hb : n ≤ 8388608) :
    Calls Try.prog 58 #[.pointer (some ⟨gb, 0, none⟩), .pointer (some ⟨gt, off, none⟩)] W fun e W' => e = .returned (.tuple #[]) ∧ ∃ W1, Roots w W W1 gb vu vs n side (fun z => if rt z = rt y then rt x else rt z) ∧ W' = W1.setCell ⟨gt, off + 1, none⟩ (.int .i64 (-1)) := by
  have HR := Aside0.mk H
  have HT := Aside0.mk T
  have HX := Aside0.mk hx
  have HY := Aside0.mk hy
  have HB := Aside0.mk hb
  have HNE : Aside0 (some gt ≠ vu.ownBlock) := ⟨by
    obtain ⟨up', h1, h2, h3, h4⟩ := H
    exact (T.ne h3).2.1⟩
  have hc := T.cells
  have c0 : decide ((y : Int) ≥ 0) = true := decide_eq_true (by omega)
  have hu86 := Try.underlying86
  have hu83 := Try.underlying83
  clear H T hx hy hb
  go_enter Try.func58, Try.ntmps58
  go_wp2_with (first | fail)
  go_region_held3 (fun W' => W'.cell? ⟨gt, off, none⟩ = some (.int .i64 (x : Int)) ∧ W'.cell? ⟨gt, off + 1, none⟩ = some (.int .i64 (y : Int))) (first | exact HT.out.drew.cells | exact HT.out.cells) (first | (go_at_call 63; (first | (with_reducible refine (join_roots HR.out.drew HX.out HY.out HB.out).mono ?_) | (with_reducible refine (join_roots HR.out HX.out HY.out HB.out).mono ?_)); rintro e_ wq_ ⟨rfl, hq_⟩; have HRn := Aside0.mk hq_; have HTn := Aside0.mk (by obtain ⟨u1, k1, k2, k3, k4⟩ := hq_; exact HT.out.kept k4 HNE.out : TK wq_ gt off (x : Int) (y : Int)); clear HR hq_ HT; have HR := HRn; have HT := HTn; clear HRn HTn))
  clear hc
  have hc := HT.out.c1
  have hfz := HT.out.f1
  go_wp2_with (first | fail)
  go_end0
  exact ⟨rfl, _, HR.out, rfl⟩
end Go.Proofs.Ytkecgjmbamaejaa.P
namespace Go.Proofs.Ytkecgjmbamaejaa.P
open Go.RowKit Go.Proofs.YtkecgjmbamaejaaW.PrintWords Go.Proofs.YtkecgjmbamaejaaW.PrintLast Go.Proofs.YtkecgjmbamaejaaW.PrintMore
set_option linter.unusedVariables false
set_option linter.unusedSimpArgs false
set_option maxHeartbeats 1000000
set_option maxRecDepth 100000
section
variable {w W W1 : World} {gb : Nat} {vu vs v1 : Value} {up l1 : List Int} {side s1 : List Bool}
theorem BT.put0 (h : BT w W gb vu vs up side) (hR : Kd.R (Kd.int .i64) 3 W1 w.heap.size (fun _ => True) v1 l1) (hb : Below w.heap.size w W1) (hg : W.grownBy W1 vu.ownBlock) : BT w (W1.setCell ⟨gb, 0, none⟩ v1) gb v1 vs l1 side := by
  have bb := blk_grown h.bb hg (Kd.R_ne h.ru h.bb (by decide))
  have rs := Kd.R_mono (Kd.R_grown (Kd.R_tight rfl h.rs) hg (fun k hk he => h.apart k hk he)) (ok' := fun _ => True) (fun _ _ => trivial)
  exact ⟨below_set hb h.nb, blk_set bb 0 v1, h.nb, Kd.R_set hR bb (EI 80 (by decide)) 0 v1, Kd.R_set rs bb (EB 80 (by decide)) 0 v1⟩
theorem BT.put1 (h : BT w W gb vu vs up side) (hR : Kd.R Kd.bool 4 W1 w.heap.size (fun _ => True) v1 s1) (hb : Below w.heap.size w W1) (hg : W.grownBy W1 vs.ownBlock) : BT w (W1.setCell ⟨gb, 1, none⟩ v1) gb vu v1 up s1 := by
  have bb := blk_grown h.bb hg (Kd.R_ne h.rs h.bb (by decide))
  have ru := Kd.R_mono (Kd.R_grown (Kd.R_tight rfl h.ru) hg (fun k hk he => h.apart k he hk)) (ok' := fun _ => True) (fun _ _ => trivial)
  exact ⟨below_set hb h.nb, blk_set bb 1 v1, h.nb, Kd.R_set ru bb (EI 80 (by decide)) 1 v1, Kd.R_set hR bb (EB 80 (by decide)) 1 v1⟩
end
section
variable {ops : Array Oper} {rest : List Oper} {o : Oper} {a : Act} {Q : Exit → Act → World → Prop} {Kc : Act → World → Prop} {w W0 W : World} {gb : Nat} {vu vs : Value} {up : List Int} {side : List Bool} {S : Nat → Prop}
theorem bag_app0 {E : Prop} (hgd : o.guard = none) (s x : Operand) (ho : o.op = .call { callee := .builtin .append, args := #[s, x], argTypes := #[24, 24] }) (H : BT w W gb vu vs up side) (K : Kept W0 W S) (hS : S gb ∧ ∀ k, some k = vu.ownBlock → S k ∨ W0.heap.size ≤ k) (hs : a.eval s = vu) (y : Int)
    (hx : a.eval x = .slice (some ⟨W.heap.size, 0, none⟩) 1 1) (hl : up.length ≤ 8388608)
    (h : ∀ A1 n1 c1 w1, BT w (w1.setCell ⟨gb, 0, none⟩ (.slice A1 n1 c1)) gb (.slice A1 n1 c1) vs (up ++ [y]) side ∧ Kept W0 (w1.setCell ⟨gb, 0, none⟩ (.slice A1 n1 c1)) S → w1.cell? ⟨gb, 0, none⟩ = some vu → w1.frozen? ⟨gb, 0, none⟩ = false → Kc (a.put o.dst (.slice A1 n1 c1)) w1) :
    if Region.wanted o (yielded ops a.tmps) = true then Oper.wp Try.prog o a (W.alloc (.cells #[.int .i64 y] 3)) Kc Q else E := by
  have hw : Region.wanted o (yielded ops a.tmps) = true := by simp [Region.wanted, hgd]
  have h1 := Kd.R_append_step (P := Try.prog) (ops := ops) (o := o) (a := a) (Q := Q) (Kc := Kc) (Kd.int .i64) (w0 := w) w.heap.size hw s x 24 3 (.int .i64 0) 8 ho Try.underlying24 info3 rfl (by decide) (by omega) vu up y [.int .i64 y] (fun _ => True) (fun _ => False) hs hx rfl (fun _ h => h.elim) (fun _ _ => trivial) H.ru H.below H.below.size (by omega) (by
    intro v1 w1 hR hb hg hat
    obtain ⟨A1, c1, rfl⟩ := Kd.R_slice hR
    rw [List.length_append] at hR hat ⊢
    have bb := blk_grown H.bb hg (Kd.R_ne H.ru H.bb (by decide))
    exact h A1 _ c1 w1 ⟨H.put0 hR hb hg, kept_set (Kept.of_grown hg K (fun k e => hS.2 k e.symm)) (.inl hS.1) _⟩ (blk_cell bb 0) (blk_frozen bb 0))
  rw [if_pos hw] at h1 ⊢
  exact h1
theorem bag_app1 (hgd : o.guard = none) (s x : Operand) (ho : o.op = .call { callee := .builtin .append, args := #[s, x], argTypes := #[66, 66] }) (H : BT w W gb vu vs up side) (K : Kept W0 W S) (hS : S gb ∧ ∀ k, some k = vs.ownBlock → S k ∨ W0.heap.size ≤ k) (hs : a.eval s = vs) (y : Bool)
    (hx : a.eval x = .slice (some ⟨W.heap.size, 0, none⟩) 1 1) (hl : side.length ≤ 8388608)
    (h : ∀ A1 n1 c1 w1, BT w (w1.setCell ⟨gb, 1, none⟩ (.slice A1 n1 c1)) gb vu (.slice A1 n1 c1) up (side ++ [y]) ∧ Kept W0 (w1.setCell ⟨gb, 1, none⟩ (.slice A1 n1 c1)) S → w1.cell? ⟨gb, 1, none⟩ = some vs → w1.frozen? ⟨gb, 1, none⟩ = false → wpList Try.prog ops Q rest (a.put o.dst (.slice A1 n1 c1)) w1) :
    wpList Try.prog ops Q (o :: rest) a (W.alloc (.cells #[.bool y] 4)) := by
  refine Kd.R_append Kd.bool (w0 := w) w.heap.size hgd s x 66 4 (.bool false) 1 ho Try.underlying66 info4 rfl (by decide) (by omega) vs side y [.bool y] (fun _ => True) (fun _ => False) hs hx rfl (fun _ h => h.elim) (fun _ _ => trivial) H.rs H.below H.below.size (by omega) ?_
  intro v1 w1 hR hb hg hat
  obtain ⟨A1, c1, rfl⟩ := Kd.R_slice hR
  rw [List.length_append] at hR hat ⊢
  have bb := blk_grown H.bb hg (Kd.R_ne H.rs H.bb (by decide))
  exact h A1 _ c1 w1 ⟨H.put1 hR hb hg, kept_set (Kept.of_grown hg K (fun k e => hS.2 k e.symm)) (.inl hS.1) _⟩ (blk_cell bb 1) (blk_frozen bb 1)
end
end Go.Proofs.Ytkecgjmbamaejaa.P
namespace Go.Proofs.Ytkecgjmbamaejaa.P
open Go.RowKit Go.Proofs.YtkecgjmbamaejaaW.PrintWords Go.Proofs.YtkecgjmbamaejaaW.PrintLast Go.Proofs.YtkecgjmbamaejaaW.PrintMore
set_option linter.unusedVariables false
set_option linter.unusedSimpArgs false
set_option maxHeartbeats 1000000
set_option maxRecDepth 100000
theorem add_calls {w W : World} {gb n : Nat} {vu vs : Value} {up : List Int} {side : List Bool} (H : BT w W gb vu vs up side) (hn : up.length = n) (hs : side.length = n) (hb : n ≤ 8388600) :
    Calls Try.prog 56 #[.pointer (some ⟨gb, 0, none⟩)] W fun e W' => e = .returned (.int .i64 (n : Int)) ∧ ∃ vu' vs', BT w W' gb vu' vs' (up ++ [(n : Int)]) (side ++ [false]) ∧ Kept W W' (fun k => k = gb ∨ some k = vu.ownBlock ∨ some k = vs.ownBlock) := by
  obtain ⟨Au, cu, hv⟩ := Kd.R_slice H.ru
  obtain ⟨As, cs, hv2⟩ := Kd.R_slice H.rs
  rw [hn] at hv
  rw [hs] at hv2
  subst hv
  subst hv2
  obtain ⟨S, hS⟩ : ∃ S : Nat → Prop, S = fun k => k = gb ∨ some k = (Value.slice Au n cu).ownBlock ∨ some k = (Value.slice As n cs).ownBlock := ⟨_, rfl⟩
  rw [← hS]
  have HS0 : Aside0 (S gb ∧ ∀ k, some k = (Value.slice Au n cu).ownBlock → S k ∨ W.heap.size ≤ k) := ⟨by rw [hS]; exact ⟨.inl rfl, fun k e => .inl (.inr (.inl e))⟩⟩
  have HS1 : Aside0 (S gb ∧ ∀ k, some k = (Value.slice As n cs).ownBlock → S k ∨ W.heap.size ≤ k) := ⟨by rw [hS]; exact ⟨.inl rfl, fun k e => .inl (.inr (.inr e))⟩⟩
  have HB := Aside0.mk H
  have HK := Aside0.mk (Kept.refl W S)
  have HN := Aside0.mk hn
  have HM := Aside0.mk hs
  have HL := Aside0.mk hb
  have hn0 : (n : Int) ≤ 8388600 := by omega
  have hf := H.cells
  have hlt := blk_lt H.bb
  have hu78 := Try.underlying78
  have hu80 := Try.underlying80
  have hu24 := Try.underlying24
  clear H hn hs hb hS
  go_enter Try.func56, Try.ntmps56
  go_upto_region 2 with (first | fail)
  apply cut_rest (S := fun A1 n1 c1 w9 => n1 = n + 1 ∧ BT w (w9.setCell ⟨gb, 0, none⟩ (.slice A1 n1 c1)) gb (.slice A1 n1 c1) (.slice As n cs) (up ++ [(n : Int)]) side ∧ Kept W (w9.setCell ⟨gb, 0, none⟩ (.slice A1 n1 c1)) S)
  case' h =>
    intro REST
    go_region_law (refine bag_app0 rfl (.tmp 7) (.tmp 13) rfl HB.out.drew (kept_drew HK.out) HS0.out rfl (n : Int) rfl (by have := HL.out; have := HN.out; omega) ?_; intro A1 n1 c1 w1 h1 h2 h3)
    all_goals exact REST A1 n1 c1 w1 ⟨by have := Kd.R_reads' h1.1.ru; rw [this.1, List.length_append, HN.out]; rfl, h1⟩
  case r =>
    clear hf hlt
    rintro A1 n1 c1 w9 ⟨hn1e, h1, hk1⟩
    have HNE := Aside0.mk hn1e
    have hn1 : (n1 : Int) ≤ 8388601 := by omega
    have hn2 : 1 ≤ (n1 : Int) := by omega
    clear hn1e
    generalize hwt : World.setCell w9 _ _ = w4 at h1 hk1 ⊢
    have HB1 := Aside0.mk h1
    have HK1 := Aside0.mk hk1
    have hf := h1.cells
    clear hwt HB HK h1 hk1
    go_upto_region 3 with (first | ((with_reducible refine gate_builtin (b := .append) (xs := #[.tmp 21, .tmp 22]) rfl ?_); at_builtin; refine bag_app1 rfl (.tmp 21) (.tmp 22) rfl HB1.out HK1.out HS1.out rfl false rfl (by have := HL.out; have := HM.out; omega) ?_; intro A2 n2 c2 w3 h1 h2 h3; clear hf))
    generalize hwt : World.setCell w3 _ _ = w5 at h1 ⊢
    have HB2 := Aside0.mk h1.1
    have HK2 := Aside0.mk h1.2
    have hf := h1.1.cells
    clear hwt HB1 HK1 h1 h2 h3
    go_wp2_with (first | fail)
    go_ret
    refine ⟨?_, _, _, HB2.out, HK2.out⟩
    have e : (n1 : Int) - 1 = (n : Int) := by have := HNE.out; omega
    exact congrArg (fun z => Ending.returned (Value.int .i64 z)) e
end Go.Proofs.Ytkecgjmbamaejaa.P
namespace Go.Proofs.Ytkecgjmbamaejaa.P
open Go.RowKit Go.Proofs.YtkecgjmbamaejaaW.PrintWords Go.Proofs.YtkecgjmbamaejaaW.PrintLast Go.Proofs.YtkecgjmbamaejaaW.PrintMore
set_option linter.unusedVariables false
structure S83 where
  own : Int
  bes : Int
def tkL (t : S83) : List Value := [.int .i64 t.own, .int .i64 t.bes]
def flatT (l : List S83) : List Value := l.flatMap tkL
theorem flatT_cons (x : S83) (l : List S83) : flatT (x :: l) = .int .i64 x.own :: .int .i64 x.bes :: flatT l := by simp [flatT, tkL]
theorem flatT_app (l m : List S83) : flatT (l ++ m) = flatT l ++ flatT m := by simp [flatT]
theorem flatT_len : ∀ l : List S83, (flatT l).length = l.length * 2
  | [] => rfl
  | x :: l => by rw [flatT_cons, List.length_cons, List.length_cons, flatT_len l, List.length_cons]; omega
theorem flatT_get : ∀ (l : List S83) (j : Nat) (t : S83), l[j]? = some t → (flatT l)[j * 2]? = some (.int .i64 t.own) ∧ (flatT l)[j * 2 + 1]? = some (.int .i64 t.bes)
  | [], j, t, h => by simp at h
  | x :: l, 0, t, h => by
    simp at h
    subst h
    rw [flatT_cons]
    exact ⟨rfl, rfl⟩
  | x :: l, j + 1, t, h => by
    have ih := flatT_get l j t (by simpa using h)
    rw [flatT_cons, show (j + 1) * 2 = j * 2 + 2 by omega]
    exact ⟨by simpa using ih.1, by simpa using ih.2⟩
theorem flatT_set : ∀ (l : List S83) (j : Nat) (b : Int), (flatT l).set (j * 2 + 1) (.int .i64 b) = flatT (l.modify j (fun t => { t with bes := b }))
  | [], j, b => by simp [flatT]
  | x :: l, 0, b => by rw [flatT_cons, List.modify_zero_cons, flatT_cons]; rfl
  | x :: l, j + 1, b => by
    rw [flatT_cons, List.modify_succ_cons, flatT_cons, ← flatT_set l j b, show (j + 1) * 2 + 1 = j * 2 + 1 + 1 + 1 by omega]
    rfl
def OR (W : World) (base : Nat) (vo : Value) (ts : List S83) : Prop := W.ownsRow base 83 2 vo ts.length (flatT ts)
section
variable {W W' : World} {base go co n : Nat} {vo : Value} {ts : List S83}
theorem OR.tk (h : OR W base (.slice (some ⟨go, 0, none⟩) n co) ts) (hn : ts.length = n) {j : Nat} {t : S83} (hj : ts[j]? = some t) : TK W go (j * 2) t.own t.bes := by
  subst hn
  have hl := (List.getElem?_eq_some_iff.1 hj).1
  obtain ⟨e1, e2⟩ := flatT_get ts j t hj
  refine ⟨(World.ownsRow.cellAt h (j * 2) (by omega)).trans e1, (World.ownsRow.cellAt h (j * 2 + 1) (by omega)).trans e2, World.ownsRow.frozenAt h _, World.ownsRow.frozenAt h _, ?_⟩
  obtain ⟨cells, hc⟩ := own_typed h go rfl
  exact ⟨cells, hc⟩
theorem OR.setBes (h : OR W base (.slice (some ⟨go, 0, none⟩) n co) ts) (hn : ts.length = n) (j : Nat) (b : Int) : OR (W.setCell ⟨go, j * 2 + 1, none⟩ (.int .i64 b)) base (.slice (some ⟨go, 0, none⟩) n co) (ts.modify j (fun t => { t with bes := b })) := by
  subst hn
  have h1 := (World.ownsRow.stored h (j * 2 + 1) (.int .i64 b)).1
  rw [flatT_set] at h1
  unfold OR
  rw [List.length_modify]
  exact h1
theorem OR.block (h : OR W base vo ts) (e : ∀ k, vo.ownBlock = some k → W'.heap[k]? = W.heap[k]?) : OR W' base vo ts := own_move h e
theorem OR.kept {S : Nat → Prop} (h : OR W base vo ts) (hk : Kept W W' S) (hn : ∀ k, vo.ownBlock = some k → ¬ S k) : OR W' base vo ts := own_move h (fun k e => hk.2 k (own_lt h k e) (hn k e))
theorem OR.cut (h : OR W base (.slice (some ⟨go, 0, none⟩) n co) ts) (hn : ts.length = n) {m : Nat} (hm : m ≤ n) : OR W base (.slice (some ⟨go, 0, none⟩) m co) (ts.take m) := by
  subst hn
  rcases h.2 with ⟨e, -⟩ | ⟨g, cap, cur, e, hb, hg, hnc, hcm, hcs, ht⟩
  · cases e
  · injection e with e1 e2 e3
    injection e1 with e1
    injection e1 with e1
    subst e1
    subst e3
    have hlen : (ts.take m).length = m := by rw [List.length_take]; omega
    unfold OR
    rw [hlen]
    refine ⟨by rw [flatT_len, hlen], .inr ⟨go, co, cur, rfl, hb, hg, by omega, hcm, hcs, ?_⟩⟩
    have e4 : flatT ts = flatT (ts.take m) ++ flatT (ts.drop m) := by rw [← flatT_app, List.take_append_drop]
    have e5 : (flatT (ts.take m)).length = m * 2 := by rw [flatT_len, hlen]
    have e6 : cur.toList.take (m * 2) = (cur.toList.take (ts.length * 2)).take (m * 2) := by rw [List.take_take]; congr 1; omega
    rw [e6, ht, e4, List.take_left' e5]
end
/-- the bags alone -/
def Rts (w W : World) (gb : Nat) (vu vs : Value) (n : Nat) (side : List Bool) (rt : Nat → Nat) : Prop := ∃ up, UF up rt ∧ up.length = n ∧ BT w W gb vu vs up side
theorem Rts.roots {w W : World} {gb n : Nat} {vu vs : Value} {side : List Bool} {rt : Nat → Nat} (h : Rts w W gb vu vs n side rt) : Roots w W W gb vu vs n side rt := by
  obtain ⟨up, h1, h2, h3⟩ := h
  exact ⟨up, h1, h2, h3, Kept.refl W _⟩
theorem Roots.rts {w W W' : World} {gb n : Nat} {vu vs : Value} {side : List Bool} {rt : Nat → Nat} (h : Roots w W W' gb vu vs n side rt) : Rts w W' gb vu vs n side rt ∧ Kept W W' (fun k => some k = vu.ownBlock) := by
  obtain ⟨up, h1, h2, h3, h4⟩ := h
  exact ⟨⟨up, h1, h2, h3⟩, h4⟩
/-- a store into a record is none into the bags -/
theorem Rts.setT {w W : World} {gb gt off n : Nat} {vu vs : Value} {side : List Bool} {rt : Nat → Nat} {a b : Int} (h : Rts w W gb vu vs n side rt) (T : TK W gt off a b) (hw : w.heap.size ≤ gt) (q : Nat) (u : Value) : Rts w (W.setCell ⟨gt, q, none⟩ u) gb vu vs n side rt := by
  obtain ⟨up, h1, h2, h3⟩ := h
  obtain ⟨n1, n2, n3⟩ := T.ne h3
  refine ⟨up, h1, h2, below_set h3.below hw, blk_far h3.bb (p := ⟨gt, q, none⟩) (fun e => n1 e.symm) u, h3.nb, ?_, ?_⟩
  · exact Kd.R_mono (Kd.R_far (p := ⟨gt, q, none⟩) (Kd.R_tight rfl h3.ru) (fun k hk e => n2 (by rw [← hk]; exact congrArg some e.symm)) u) (fun _ _ => trivial)
  · exact Kd.R_mono (Kd.R_far (p := ⟨gt, q, none⟩) (Kd.R_tight rfl h3.rs) (fun k hk e => n3 (by rw [← hk]; exact congrArg some e.symm)) u) (fun _ _ => trivial)
theorem Rts.step {w W W1 : World} {gb n : Nat} {vu vs : Value} {side : List Bool} {rt : Nat → Nat} (h : Rts w W gb vu vs n side rt) (k : Below W.heap.size W W1) : Rts w W1 gb vu vs n side rt := by
  obtain ⟨up, h1, h2, h3⟩ := h
  exact ⟨up, h1, h2, h3.step k⟩
end Go.Proofs.Ytkecgjmbamaejaa.P
namespace Go.Proofs.Ytkecgjmbamaejaa.P
open Go.RowKit Go.Proofs.YtkecgjmbamaejaaW.PrintWords Go.Proofs.YtkecgjmbamaejaaW.PrintLast Go.Proofs.YtkecgjmbamaejaaW.PrintMore
set_option linter.unusedVariables false
set_option linter.unusedSimpArgs false
set_option maxHeartbeats 1000000
set_option maxRecDepth 100000
theorem TK.set1 {W : World} {gt off : Nat} {a b : Int} (h : TK W gt off a b) (b' : Int) : TK (W.setCell ⟨gt, off + 1, none⟩ (.int .i64 b')) gt off a b' := by
  obtain ⟨cs, hc⟩ := h.ty
  have h2 := blk_set hc (off + 1) (.int .i64 b')
  have k0 : cs[off]? = some (.int .i64 a) := (blk_cell hc off).symm.trans h.c0
  have k1 : cs[off + 1]? = some (.int .i64 b) := (blk_cell hc (off + 1)).symm.trans h.c1
  refine ⟨(blk_cell h2 off).trans ?_, (blk_cell h2 (off + 1)).trans ?_, blk_frozen h2 off, blk_frozen h2 (off + 1), _, h2⟩
  · first
      | (rw [Array.getElem?_setIfInBounds_ne (by omega)]; exact k0)
      | (rw [Array.getElem?_set_ne (by omega)]; exact k0)
      | (simp [k0]; done)
  · have hl : off + 1 < cs.size := by
      rcases Nat.lt_or_ge (off + 1) cs.size with h | h
      · exact h
      · rw [Array.getElem?_eq_none h] at k1; cases k1
    first
      | (rw [Array.getElem?_setIfInBounds_self_of_lt hl]; done)
      | (simp [hl]; done)
def waitRt (rt : Nat → Nat) (x : Nat) (b : Int) : Nat → Nat := if b < 0 then rt else fun z => if rt z = rt b.toNat then rt x else rt z
theorem wait_any {w W : World} {gb n gt off : Nat} {vu vs : Value} {side : List Bool} {rt : Nat → Nat} {x : Nat} {b : Int} (H : Rts w W gb vu vs n side rt) (T : TK W gt off (x : Int) b) (hw : w.heap.size ≤ gt) (hx : x < n) (hy : b < (n : Int)) (hb : n ≤ 8388608) :
    Calls Try.prog 58 #[.pointer (some ⟨gb, 0, none⟩), .pointer (some ⟨gt, off, none⟩)] W fun e W' => e = .returned (.tuple #[]) ∧ Rts w W' gb vu vs n side (waitRt rt x b) ∧ (∃ b', TK W' gt off (x : Int) b') ∧ Kept W W' (fun k => k = gt ∨ some k = vu.ownBlock) := by
  by_cases hb0 : b < 0
  · refine (wait_neg T hb0).mono ?_
    rintro e W' ⟨rfl, rfl⟩
    exact ⟨rfl, by unfold waitRt; rw [if_pos hb0]; exact H, ⟨b, T⟩, Kept.refl _ _⟩
  · obtain ⟨y, rfl⟩ : ∃ y : Nat, b = (y : Int) := ⟨b.toNat, by omega⟩
    have hne : some gt ≠ vu.ownBlock := by
      obtain ⟨up, h1, h2, h3⟩ := H
      exact (T.ne h3).2.1
    refine (wait_nat H.roots T hx (by omega) hb).mono ?_
    rintro e W' ⟨rfl, W1, hR, rfl⟩
    obtain ⟨h1, h2⟩ := hR.rts
    have T1 := T.kept h2 hne
    refine ⟨rfl, ?_, ⟨-1, T1.set1 (-1)⟩, kept_set ⟨h2.1, fun i hi hn => h2.2 i hi (fun e => hn (.inr e))⟩ (.inl (.inl rfl)) _⟩
    unfold waitRt
    rw [if_neg hb0, Int.toNat_natCast]
    exact h1.setT T1 hw _ _
theorem TK.box (W : World) (a b : Int) : TK (W.alloc (.cells #[.int .i64 a, .int .i64 b] 83)) W.heap.size 0 a b := by
  have h := heap_alloc_new W (.cells #[Value.int .i64 a, .int .i64 b] 83)
  have h2 : (W.alloc (.cells #[Value.int .i64 a, .int .i64 b] 83)).heap[W.heap.size]? = some (.cells #[.int .i64 a, .int .i64 b] 83 (0, 0)) := by first | exact h | simpa using h
  exact ⟨blk_cell h2 0, blk_cell h2 1, blk_frozen h2 0, blk_frozen h2 1, _, h2⟩
theorem OR.ne_vu {w W : World} {gb go n2 co n base : Nat} {vu vs : Value} {side : List Bool} {rt : Nat → Nat} {l : List S83} (O : OR W base (.slice (some ⟨go, 0, none⟩) n2 co) l) (H : Rts w W gb vu vs n side rt) : some go ≠ vu.ownBlock ∧ some go ≠ vs.ownBlock ∧ go ≠ gb := by
  obtain ⟨up, h1, h2, h3⟩ := H
  obtain ⟨cells, hc⟩ := own_typed O go rfl
  refine ⟨fun he => ?_, fun he => ?_, blk_ne hc h3.bb (by decide)⟩
  · obtain ⟨c2, e2⟩ := Kd.R_typed h3.ru go he.symm
    exact blk_ne hc e2 (by decide) rfl
  · obtain ⟨c2, e2⟩ := Kd.R_typed h3.rs go he.symm
    exact blk_ne hc e2 (by decide) rfl
theorem info83 : (Try.prog.info? 83).map (fun i => (i.zero, i.size, i.bytes)) = some (some (.agg #[(.int .i64 0), (.int .i64 0)]), 2, 16) := by kernel_rfl
theorem cut83 {A : Option Addr} {n L co : Nat} (hL : L ≤ n) (hc : n ≤ co) : ∀ W : World, (Instr.slice 84 (.slice A n co) none (some (.int .i64 (L : Int))) none).run Try.prog W = .ok (.slice A L co) W := by
  intro W
  obtain ⟨i0, hi, -, -, -⟩ := info_parts info83
  have := cut_to (P := Try.prog) 84 83 .i64 Try.underlying84 hi A n co (L : Int) (by omega) (by omega) hc W
  rwa [Int.toNat_natCast] at this
def celA (W : World) (a : Addr) : Value := (W.cell? a).getD undef
theorem Rts.setSide {w W : World} {gb gs n cs r : Nat} {vu : Value} {side : List Bool} {rt : Nat → Nat} (h : Rts w W gb vu (.slice (some ⟨gs, 0, none⟩) n cs) n side rt) (hn : side.length = n) (b : Bool) : Rts w (W.setCell ⟨gs, r, none⟩ (.bool b)) gb vu (.slice (some ⟨gs, 0, none⟩) n cs) n (side.set r b) rt := by
  subst hn
  obtain ⟨up, h1, h2, h3⟩ := h
  have hb := Kd.R_base h3.rs gs rfl
  obtain ⟨c1, e1⟩ := Kd.R_typed h3.rs gs rfl
  have k1 := Kd.R_put h3.rs (r : Int) b
  rw [Int.toNat_natCast] at k1
  refine ⟨up, h1, h2, below_set h3.below hb, blk_far h3.bb (p := ⟨gs, r, none⟩) (blk_ne h3.bb e1 (by decide)) _, h3.nb, ?_, k1.1⟩
  exact Kd.R_mono (Kd.R_grown (Kd.R_tight rfl h3.ru) k1.2 (fun k hk he => h3.apart k he hk)) (fun _ _ => trivial)
theorem side_state {w W : World} {gb gs g6 n cs r : Nat} {vu : Value} {side : List Bool} {rt : Nat → Nat} {a b : Int} (h : Rts w W gb vu (.slice (some ⟨gs, 0, none⟩) n cs) n side rt) (hn : side.length = n) (hr : r < n) (T : TK W g6 0 a b) :
    (∀ j, W.cell? ⟨gb, j, none⟩ = #[vu, Value.slice (some ⟨gs, 0, none⟩) n cs][j]?) ∧ (W.cell? ⟨g6, 0, none⟩ = some (.int .i64 a) ∧ W.cell? ⟨g6, 0 + 1, none⟩ = some (.int .i64 b)) ∧ W.cell? ⟨gs, r, none⟩ = some (celA W ⟨gs, r, none⟩) ∧ W.frozen? ⟨gs, r, none⟩ = false := by
  subst hn
  obtain ⟨up, h1, h2, h3⟩ := h
  have k1 := Kd.R_cell false h3.rs (r : Int) (by omega) (by omega)
  rw [Int.toNat_natCast] at k1
  exact ⟨h3.cells.1, T.cells, by unfold celA; rw [k1.1]; rfl, k1.2⟩
theorem TK.far {W : World} {gt off : Nat} {a b : Int} (h : TK W gt off a b) {p : Addr} (hp : p.block ≠ gt) (u : Value) : TK (W.setCell p u) gt off a b := h.block (Below.heap_setCell W p u gt (fun e => hp e.symm))
theorem OR.far {W : World} {base : Nat} {vo : Value} {ts : List S83} (h : OR W base vo ts) {p : Addr} (hp : ∀ k, vo.ownBlock = some k → k ≠ p.block) (u : Value) : OR (W.setCell p u) base vo ts := h.block (fun k e => Below.heap_setCell W p u k (hp k e))
/-- what the last task's return leaves -/
def BackPost (w W : World) (gb go n L m co base x : Nat) (vu vs : Value) (side : List Bool) (rt1 : Nat → Nat) (l : List S83) (u : S83) (e : Ending) (W' : World) : Prop :=
  e = .returned (.slice (some ⟨go, 0, none⟩) L co) ∧ ∃ side' rt' l', (u.bes < 0 ∧ side' = side.set (rt1 x) true ∧ rt' = rt1 ∧ l' = (l.modify m (fun t => { t with bes := (x : Int) })).take L ∨ ¬ u.bes < 0 ∧ side' = side ∧ rt' = (fun z => if rt1 z = rt1 x then rt1 u.bes.toNat else rt1 z) ∧ l' = l.take L) ∧
    Rts w W' gb vu vs n side' rt' ∧ OR W' base (.slice (some ⟨go, 0, none⟩) L co) l' ∧ Kept W W' (fun k => k = go ∨ some k = vu.ownBlock ∨ some k = vs.ownBlock)
theorem back_calls {w W : World} {gb go n L m n2 co base : Nat} {vu vs : Value} {side : List Bool} {rt : Nat → Nat} {l : List S83} {u c : S83} {x : Nat} (H : Rts w W gb vu vs n side rt) (O : OR W base (.slice (some ⟨go, 0, none⟩) n2 co) l) (hn2 : l.length = n2) (hL : n2 = L + 1) (hm : L = m + 1)
    (hu : l[m]? = some u) (hc : l[L]? = some c) (hx : c.own = (x : Int)) (hxn : x < n) (hcb : c.bes < (n : Int)) (hub : u.bes < (n : Int)) (hb : n ≤ 8388608) (hs : side.length = n) (hn2b : n2 ≤ 8388608) (hwb : w.heap.size ≤ go) :
    Calls Try.prog 57 #[.pointer (some ⟨gb, 0, none⟩), .slice (some ⟨go, 0, none⟩) n2 co] W (BackPost w W gb go n L m co base x vu vs side (waitRt rt x c.bes) l u) := by
  have hco : n2 ≤ co := by
    rcases O.2 with ⟨e, -⟩ | ⟨g, cap, cur, e, hb, hg, hnc, hcm, hcs, ht⟩
    · cases e
    · injection e with e1 e2 e3; omega
  have hcut := cut83 (A := some ⟨go, 0, none⟩) (n := n2) (L := L) (co := co) (by omega) hco
  clear hco
  have HLN : Aside0 (L ≤ n2) := ⟨by omega⟩
  have HR := Aside0.mk H
  have HO := Aside0.mk O
  have q1 : (n2 : Int) - 1 = (L : Int) := by omega
  have q2 : (L : Int) - 1 = (m : Int) := by omega
  have q3 : (L : Int) < (n2 : Int) := by omega
  have q4 : (m : Int) < (n2 : Int) := by omega
  have q5 : (n2 : Int) ≤ 8388608 := by omega
  have TU := O.tk hn2 hu
  have TC := O.tk hn2 hc
  have hf1 := TU.cells
  have hf2 := TC.cells
  rw [hx] at hf2
  have hu78 := Try.underlying78
  have hu83 := Try.underlying83
  have hu84 := Try.underlying84
  have hu86 := Try.underlying86
  have HN2 := Aside0.mk hn2
  have HU := Aside0.mk hu
  have HXN := Aside0.mk hxn
  have HCB := Aside0.mk hcb
  have HUB := Aside0.mk hub
  have HNB := Aside0.mk hb
  have HS := Aside0.mk hs
  have HWB := Aside0.mk hwb
  clear H O hn2 hL hm hu hc TU TC hx hxn hcb hub hb hs hn2b hwb
  go_enter Try.func57, Try.ntmps57
  go_upto_region 3 with (first | fail)
  generalize hwt : World.alloc W _ = w2
  obtain ⟨g6, hg6⟩ : ∃ g, W.heap.size = g := ⟨_, rfl⟩
  rw [hg6]
  have hkA : Kept W w2 (fun _ => False) := by
    rw [← hwt]
    exact ⟨below_size (below_alloc (Below.refl W.heap.size W) _), fun i hi _ => (below_alloc (Below.refl W.heap.size W) (.cells #[Value.int .i64 (x : Int), .int .i64 c.bes] 83)).block i hi⟩
  have TB : Aside0 (TK w2 g6 0 (x : Int) c.bes) := ⟨by rw [← hwt, ← hg6]; exact TK.box W _ _⟩
  have HR1 : Aside0 (Rts w w2 gb vu vs n side rt) := ⟨by rw [← hwt]; exact HR.out.step (below_alloc (Below.refl _ _) _)⟩
  have HO1 : Aside0 (OR w2 base (.slice (some ⟨go, 0, none⟩) n2 co) l) := ⟨HO.out.kept hkA (fun _ _ h => h)⟩
  have HW6 : Aside0 (w.heap.size ≤ g6) := ⟨by obtain ⟨up, h1, h2, h3⟩ := HR.out; have := below_size h3.below; omega⟩
  have HG6S : Aside0 (W.heap.size = g6) := ⟨hg6⟩
  have HG6 : Aside0 (go ≠ g6) := ⟨by have := own_lt HO.out go rfl; omega⟩
  have HK1 : Aside0 (Kept W w2 (fun _ => False)) := ⟨hkA⟩
  have HNV := Aside0.mk (HO1.out.ne_vu HR1.out)
  clear hwt hkA HR HO hf1 hf2
  obtain ⟨rt1, hrt1⟩ : ∃ r, waitRt rt x c.bes = r := ⟨_, rfl⟩
  have HRT := Aside0.mk hrt1
  rw [hrt1]
  clear hrt1
  go_upto_region 5 with (first | (go_at_call 58; (with_reducible refine (wait_any HR1.out TB.out HW6.out HXN.out HCB.out HNB.out).mono ?_); rintro e_ w3 ⟨rfl, h1, ⟨b', h2⟩, h3⟩; rw [HRT.out] at h1; have HR2 := Aside0.mk h1; have TB2 := Aside0.mk h2; have HO2 := Aside0.mk (HO1.out.kept h3 (fun k e hk => by have e' : go = k := Option.some.inj e; subst e'; exact hk.elim (fun h => HG6.out h) (fun h => HNV.out.1 h))); have HK2 := Aside0.mk h3; have TU2 := Aside0.mk (HO2.out.tk HN2.out HU.out); have hf := TU2.out.cells; clear HR1 TB HO1 h1 h2 h3))
  by_cases hub0 : u.bes < 0
  · have c0 : decide (u.bes < 0) = true := decide_eq_true hub0
    have HUB0 := Aside0.mk hub0
    obtain ⟨gs, cs, hvs, hgs⟩ : ∃ gs cs, vs = .slice (some ⟨gs, 0, none⟩) n cs ∧ gs ≠ gb := by
      obtain ⟨up, h1, h2, h3⟩ := HR2.out
      have := h3.forms (by have := HS.out; have := HXN.out; omega)
      rwa [HS.out] at this
    obtain ⟨rx, hrx⟩ : ∃ r, rt1 x = r := ⟨_, rfl⟩
    have HRX := Aside0.mk hrx
    have HRN : Aside0 (rx < n) := ⟨by obtain ⟨up, h1, h2, h3⟩ := HR2.out; rw [← hrx, ← h2]; exact h1.lt x (by rw [h2]; exact HXN.out)⟩
    have hcb := TB2.out.cells
    have hfz := TU2.out.f1
    have HQ : Aside0 (some go ≠ vu.ownBlock ∧ some g6 ≠ vu.ownBlock ∧ go ≠ gs ∧ g6 ≠ gs) := ⟨HNV.out.1, by
      obtain ⟨up, h1, h2, h3⟩ := HR2.out
      have k1 := TB2.out.ne h3
      rw [hvs] at k1
      have k2 := HNV.out.2.1
      rw [hvs] at k2
      exact ⟨k1.2.1, fun e => k2 (congrArg some e), fun e => k1.2.2 (congrArg some e)⟩⟩
    subst hvs
    have hrn1 : (rx : Int) < (n : Int) := by have := HRN.out; omega
    have hn0 : (n : Int) ≤ 8388608 := by have := HNB.out; omega
    have hu80 := Try.underlying80
    have hu66 := Try.underlying66
    clear hub0 hrx hgs
    go_upto_region 7 with (first | fail)
    generalize hwt : World.setCell w3 _ _ = w4
    have HRR : Aside0 (Roots w w4 w4 gb vu (.slice (some ⟨gs, 0, none⟩) n cs) n side rt1) := ⟨by rw [← hwt]; exact (HR2.out.setT TU2.out HWB.out _ _).roots⟩
    have TB3 : Aside0 (TK w4 g6 0 (x : Int) b') := ⟨by rw [← hwt]; exact TB2.out.far (p := ⟨go, m * 2 + 1, none⟩) HG6.out _⟩
    have HO3 : Aside0 (OR w4 base (.slice (some ⟨go, 0, none⟩) n2 co) (l.modify m (fun t => { t with bes := (x : Int) }))) := ⟨by rw [← hwt]; exact HO2.out.setBes HN2.out m (x : Int)⟩
    have HK3 : Aside0 (Kept w3 w4 (fun k => k = go)) := ⟨by rw [← hwt]; exact kept_set (p := ⟨go, m * 2 + 1, none⟩) (S := fun k => k = go) (Kept.refl w3 _) (.inl rfl) _⟩
    have hcb2 := TB3.out.cells
    have hcg := (side_state HRR.out.rts.1 HS.out HRN.out TB3.out).1
    clear hwt HR2 TB2 HO2 TU2 hf hcb hfz
    go_region_held3 (fun W' => (∀ j, W'.cell? ⟨gb, j, none⟩ = #[vu, Value.slice (some ⟨gs, 0, none⟩) n cs][j]?) ∧ (W'.cell? ⟨g6, 0, none⟩ = some (.int .i64 (x : Int)) ∧ W'.cell? ⟨g6, 0 + 1, none⟩ = some (.int .i64 b')) ∧ W'.cell? ⟨gs, rx, none⟩ = some (celA W' ⟨gs, rx, none⟩) ∧ W'.frozen? ⟨gs, rx, none⟩ = false) (first | exact side_state HRR.out.drew.rts.1 HS.out HRN.out TB3.out.drew | exact side_state HRR.out.rts.1 HS.out HRN.out TB3.out | exact side_state (HRR.out.rts.1.setSide HS.out true) (by rw [List.length_set]; exact HS.out) HRN.out (TB3.out.far (p := ⟨gs, rx, none⟩) (fun e => HQ.out.2.2.2 e.symm) _)) (first | (go_at_call 62; (first | (with_reducible refine (root_roots HRR.out.drew HXN.out HNB.out HRX.out).mono ?_) | (with_reducible refine (root_roots HRR.out HXN.out HNB.out HRX.out).mono ?_)); rintro e_ wq_ ⟨rfl, hq_⟩; have HRn := Aside0.mk hq_; have TBn := Aside0.mk (TB3.out.kept hq_.rts.2 HQ.out.2.1); have HOn := Aside0.mk (HO3.out.kept hq_.rts.2 (fun k e hk => by have e' : go = k := Option.some.inj e; subst e'; exact HQ.out.1 hk)); clear HRR hq_ TB3 HO3; have HRR := HRn; have TB3 := TBn; have HO3 := HOn; clear HRn TBn HOn))
    clear hcb2 hcg
    go_wp2_with (first | fail)
    go_ret
    have hlen : (l.modify m (fun t => { t with bes := (x : Int) })).length = n2 := by rw [List.length_modify]; exact HN2.out
    refine ⟨rfl, _, _, _, .inl ⟨HUB0.out, rfl, rfl, rfl⟩, ?_, (HO3.out.far (p := ⟨gs, rx, none⟩) (fun k e => by have e' : go = k := Option.some.inj e; subst e'; exact HQ.out.2.2.1) _).cut hlen HLN.out, ?_⟩
    · rw [HRT.out, HRX.out]
      exact HRR.out.rts.1.setSide HS.out true
    · have k1 := HRR.out.rts.2
      refine kept_set (p := ⟨gs, rx, none⟩) ⟨Nat.le_trans HK1.out.1 (Nat.le_trans HK2.out.1 (Nat.le_trans HK3.out.1 k1.1)), fun i hi hn => ?_⟩ (.inl (.inr (.inr rfl))) _
      have hi2 := Nat.lt_of_lt_of_le hi HK1.out.1
      have hi3 := Nat.lt_of_lt_of_le hi2 HK2.out.1
      rw [k1.2 i (Nat.lt_of_lt_of_le hi3 HK3.out.1) (fun e => hn (.inr (.inl e))), HK3.out.2 i hi3 (fun e => hn (.inl e)), HK2.out.2 i hi2 (fun e => e.elim (fun e => by have := HG6S.out; omega) (fun e => hn (.inr (.inl e)))), HK1.out.2 i hi (fun e => e)]
  · obtain ⟨y, hy⟩ : ∃ y : Nat, u.bes = (y : Int) := ⟨u.bes.toNat, by omega⟩
    have HYN : Aside0 (y < n) := ⟨by have := HUB.out; omega⟩
    have HY := Aside0.mk hy
    rw [hy] at hf
    have c0 : decide ((y : Int) < 0) = false := decide_eq_false (by omega)
    have hcb := TB2.out.cells
    have HTU : Aside0 (TK w3 go (m * 2) u.own (y : Int)) := ⟨by have := TU2.out; rwa [hy] at this⟩
    have HQ : Aside0 (some go ≠ vu.ownBlock ∧ some g6 ≠ vu.ownBlock) := ⟨HNV.out.1, by obtain ⟨up, h1, h2, h3⟩ := HR2.out; exact (TB2.out.ne h3).2.1⟩
    have HRR : Aside0 (Roots w w3 w3 gb vu vs n side rt1) := ⟨HR2.out.roots⟩
    clear hub0 hy TU2 HR2
    go_upto_region 8 with (first | fail)
    go_region_held3 (fun W' => (W'.cell? ⟨go, m * 2, none⟩ = some (.int .i64 u.own) ∧ W'.cell? ⟨go, m * 2 + 1, none⟩ = some (.int .i64 (y : Int))) ∧ (W'.cell? ⟨g6, 0, none⟩ = some (.int .i64 (x : Int)) ∧ W'.cell? ⟨g6, 0 + 1, none⟩ = some (.int .i64 b'))) (first | exact ⟨HTU.out.drew.cells, TB2.out.drew.cells⟩ | exact ⟨HTU.out.cells, TB2.out.cells⟩) (first | (go_at_call 63; (first | (with_reducible refine (join_roots HRR.out.drew HYN.out HXN.out HNB.out).mono ?_) | (with_reducible refine (join_roots HRR.out HYN.out HXN.out HNB.out).mono ?_)); rintro e_ wq_ ⟨rfl, hq_⟩; have HRn := Aside0.mk hq_; have HTn := Aside0.mk (HTU.out.kept hq_.rts.2 HQ.out.1); have TBn := Aside0.mk (TB2.out.kept hq_.rts.2 HQ.out.2); have HOn := Aside0.mk (HO2.out.kept hq_.rts.2 (fun k e hk => by have e' : go = k := Option.some.inj e; subst e'; exact HNV.out.1 hk)); clear HRR hq_ HTU TB2 HO2; have HRR := HRn; have HTU := HTn; have TB2 := TBn; have HO2 := HOn; clear HRn HTn TBn HOn))
    clear hf hcb
    go_wp2_with (first | fail)
    go_ret
    refine ⟨rfl, _, _, _, .inr ⟨by rw [HY.out]; omega, rfl, rfl, rfl⟩, ?_, HO2.out.cut HN2.out HLN.out, ?_⟩
    · rw [HY.out, Int.toNat_natCast, HRT.out]
      exact HRR.out.rts.1
    · have k1 := HRR.out.rts.2
      refine ⟨Nat.le_trans HK1.out.1 (Nat.le_trans HK2.out.1 k1.1), fun i hi hn => ?_⟩
      have hi2 := Nat.lt_of_lt_of_le hi HK1.out.1
      rw [k1.2 i (Nat.lt_of_lt_of_le hi2 HK2.out.1) (fun e => hn (.inr (.inl e))), HK2.out.2 i hi2 (fun e => e.elim (fun e => by have := HG6S.out; omega) (fun e => hn (.inr (.inl e)))), HK1.out.2 i hi (fun e => e)]
end Go.Proofs.Ytkecgjmbamaejaa.P
