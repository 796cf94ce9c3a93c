/- RacesOrders: its calls. -/
import Derived.Deep.RegionHeld3
import Derived.Deep.RegionLaw
import Derived.Test.YtkecgjmbamaejaaPOPx0
import Derived.Test.YtkecgjmbamaejaaPOPx2
import Derived.Test.YtkecgjmbamaejaaPOPx3
import Derived.Test.YtkecgjmbamaejaaPOPx6
import Derived.Test.YtkecgjmbamaejaaPOPx7
import Derived.Test.YtkecgjmbamaejaaPOPx8
import Derived.Test.YtkecgjmbamaejaaPORC
set_option linter.unusedVariables false
set_option linter.unusedSimpArgs false
namespace Go.Proofs.Ytkecgjmbamaejaa.P
open Go.RowKit Go.Proofs.YtkecgjmbamaejaaW.PrintWords Go.Proofs.YtkecgjmbamaejaaW.PrintLast Go.Proofs.YtkecgjmbamaejaaW.PrintMore
set_option linter.unusedVariables false

theorem rd_get (A : List Int) (j : Nat) : rd A (j : Int) = A.getD j 0 := by unfold rd; rw [Int.toNat_natCast]
theorem rd_set (A : List Int) (j i : Nat) (x : Int) (h : j < A.length) : rd (A.set j x) (i : Int) = if j = i then x else rd A (i : Int) := by
  rw [rd_get, rd_get, List.getD_eq_getElem?_getD, List.getElem?_set]
  by_cases e : j = i
  · rw [if_pos e, if_pos e, if_pos h]; rfl
  · rw [if_neg e, if_neg e, ← List.getD_eq_getElem?_getD]
theorem refpl_l1 (O : List Nat) (hn : O.Nodup) (n : Nat) (hO : O.length = n) (hlt : ∀ x ∈ O, x < n) (hb : n ≤ 4096) : ∀ (d j : Nat) (A : List Int), j + d = n → A.length = n → (∀ q (hq : q < O.length), q < j → rd A (O[q] : Int) = (q : Int)) → (∀ q (hq : q < O.length), j ≤ q → rd A (O[q] : Int) = -1) →
    ∃ A', Ev (fun k => plunderref19_places.l1 k (ints O) (n : Int) A (j : Int)) (A', true) ∧ A'.length = n ∧ ∀ q (hq : q < O.length), rd A' (O[q] : Int) = (q : Int) := by
  intro d
  induction d with
  | zero =>
    intro j A hj hA h h2
    refine ⟨A, Ev.step (f := fun _ => some (A, true)) (fun k => ?_) (Ev.now _), hA, fun q hq => h q hq (by omega)⟩
    simp only [plunderref19_places.l1]
    rw [if_neg (by omega)]
  | succ d ih =>
    intro j A hj hA h h2
    have hjO : j < O.length := by omega
    have hx : O[j] < n := hlt _ (List.getElem_mem hjO)
    have hr := rd_ints O j hjO
    have hne : ∀ q (hq : q < O.length), q ≠ j → O[j] ≠ O[q] := fun q hq hqj e => by
      have h5 := idx_at hn hjO
      simp only [e] at h5
      rw [idx_at hn hq] at h5
      exact hqj h5
    obtain ⟨A', h3, h4, h5⟩ := ih (j + 1) (A.set O[j] (j : Int)) (by omega) (by rw [List.length_set]; exact hA)
      (fun q hq hqj => by
        rw [rd_set _ _ _ _ (by omega)]
        by_cases e2 : q = j
        · subst e2; rw [if_pos rfl]
        · rw [if_neg (hne q hq e2)]; exact h q hq (by omega))
      (fun q hq hqj => by
        rw [rd_set _ _ _ _ (by omega), if_neg (hne q hq (by omega))]
        exact h2 q hq (by omega))
    refine ⟨A', Ev.step (fun k => ?_) h3, h4, h5⟩
    simp only [plunderref19_places.l1]
    rw [if_pos (by omega), if_pos (by omega), if_pos (by rw [ints_len]; omega), hr, if_neg (by omega), if_neg (by omega), if_pos (by omega), if_pos (by omega), if_neg (by rw [h2 j hjO (Nat.le_refl _)]; omega), w64s (by omega), Int.toNat_natCast]
theorem refpl_l0 (x0 : List Int) (n : Nat) (hb : n ≤ 4096) : ∀ (d j : Nat) (A : List Int), j + d = n → A.length = n → (∀ q, q < j → rd A (q : Int) = -1) →
    ∃ A', A'.length = n ∧ (∀ q, q < n → rd A' (q : Int) = -1) ∧ ∀ r, Ev (fun k => plunderref19_places.l1 k x0 (n : Int) A' ((0 : Nat) : Int)) r → Ev (fun k => plunderref19_places.l0 k x0 (n : Int) A (j : Int)) r := by
  intro d
  induction d with
  | zero =>
    intro j A hj hA h
    refine ⟨A, hA, fun q hq => h q (by omega), fun r hr => Ev.step (fun k => ?_) hr⟩
    simp only [plunderref19_places.l0]
    rw [if_neg (by omega)]
    rfl
  | succ d ih =>
    intro j A hj hA h
    obtain ⟨A', h1, h2, h3⟩ := ih (j + 1) (A.set j (-1)) (by omega) (by rw [List.length_set]; exact hA) (fun q hq => by
      rw [rd_set _ _ _ _ (by omega)]
      by_cases e : j = q
      · rw [if_pos e]
      · rw [if_neg e]; exact h q (by omega))
    refine ⟨A', h1, h2, fun r hr => Ev.step (fun k => ?_) (h3 r hr)⟩
    simp only [plunderref19_places.l0]
    rw [if_pos (by omega), if_pos (by omega), if_pos (by omega), w64s (by omega), Int.toNat_natCast]
theorem refpl_ev (O : List Nat) (hn : O.Nodup) (n : Nat) (hO : O.length = n) (hm : ∀ x, x ∈ O ↔ x < n) (hb : n ≤ 4096) :
    ∃ A, Ev (fun k => plunderref19_places.f k (ints O) (n : Int)) (A, true) ∧ A.length = n ∧ ∀ i, i < n → rd A (i : Int) = (O.idxOf i : Int) := by
  obtain ⟨A, h1, h2, h3⟩ := refpl_l0 (ints O) n hb n 0 (List.replicate n 0) (by omega) List.length_replicate (fun q hq => absurd hq (Nat.not_lt_zero _))
  obtain ⟨B, h4, h5, h6⟩ := refpl_l1 O hn n hO (fun x hx => (hm x).1 hx) hb n 0 A (by omega) h1 (fun q _ hq => absurd hq (Nat.not_lt_zero _)) (fun q hq _ => h2 _ ((hm _).1 (List.getElem_mem hq)))
  refine ⟨B, Ev.congr (fun k => ?_) (h3 _ h4), h5, fun i hi => ?_⟩
  · unfold plunderref19_places.f
    rw [if_pos (by omega), if_pos (by omega), Option.bind_some, if_pos (by rw [ints_len, hO]), Int.toNat_natCast]
    rfl
  · have hi2 : i ∈ O := (hm i).2 hi
    have hq : O.idxOf i < O.length := List.idxOf_lt_length_of_mem hi2
    have := h6 _ hq
    rwa [List.getElem_idxOf hq] at this

theorem refo_l1 {l : List S52} (h : Good l) {A B : List Int} {T : List (List Bool)} (hA : A.length = l.length) (hB : B.length = l.length) (hA1 : ∀ i, i < l.length → rd A (i : Int) = (i : Int)) (hB1 : ∀ i, i < l.length → rd B (i : Int) = ((ord l).idxOf i : Int)) (hT : TB (kdsOf l) l.length l.length T) (i : Nat) (hi : i < l.length) :
    ∀ (d j : Nat), j + d = l.length → ∀ r, Ev (fun k => plunderref19_Orders.l0 k (l.length : Int) A B T ((i + 1 : Nat) : Int)) r → Ev (fun k => plunderref19_Orders.l1 k (l.length : Int) A B T (i : Int) (j : Int)) r := by
  have hb := h.len
  intro d
  induction d with
  | zero =>
    intro j hj r hr
    refine Ev.step (fun k => ?_) hr
    simp only [plunderref19_Orders.l1]
    rw [if_neg (by omega), w64s (by omega)]
  | succ d ih =>
    intro j hj r hr
    have hjl : j < l.length := by omega
    obtain ⟨hR1, hR2⟩ := hT.2 j hjl
    have hTl := hT.1
    have c1 : (i : Int) < ((rd_L6 T (j : Int)).length : Int) := by rw [rdL6, hR1]; omega
    have e1 : rdOf false (rd_L6 T (j : Int)) (i : Int) = (T.getD j []).getD i false := by rw [rdL6, rdB]
    refine Ev.step (fun k => ?_) (ih (j + 1) (by omega) r hr)
    simp only [plunderref19_Orders.l1]
    rw [if_pos (by omega), if_pos (by omega), if_pos (by omega), if_pos (by omega), if_pos (by omega), hA1 i hi, hA1 j hjl]
    by_cases hij : i < j
    · rw [if_pos (by omega), if_pos (by omega), if_pos (by omega), if_neg (by omega), if_pos (by omega), if_pos c1, hB1 i hi, hB1 j hjl, e1, w64s (by omega)]
      rw [if_neg]
      have hs := second_ahead h hij hjl
      have h2 := hR2 i hi
      by_cases ha : Ahead (kdsOf l) i j
      · rw [h2.2 ha, decide_eq_true (by have := hs.2 ha; omega)]
        decide
      · have h3 : (T.getD j []).getD i false = false := by
          rw [Bool.eq_false_iff]
          exact fun hx => ha (h2.1 hx)
        rw [h3, decide_eq_false (fun hx => ha (hs.1 (by omega)))]
        decide
    · rw [if_neg (by omega)]
      by_cases he : i = j
      · subst he
        rw [if_pos rfl, w64s (by omega)]
      · rw [if_neg (by omega), if_pos (by omega), if_pos c1, e1, w64s (by omega), if_neg]
        have h3 : (T.getD j []).getD i false = false := by
          rw [Bool.eq_false_iff]
          intro hx
          have := ((hR2 i hi).1 hx).lt h.fair (by rw [kds_len]; exact hjl)
          omega
        rw [h3]
        decide
theorem refo_l0 {l : List S52} (h : Good l) {A B : List Int} {T : List (List Bool)} (hA : A.length = l.length) (hB : B.length = l.length) (hA1 : ∀ i, i < l.length → rd A (i : Int) = (i : Int)) (hB1 : ∀ i, i < l.length → rd B (i : Int) = ((ord l).idxOf i : Int)) (hT : TB (kdsOf l) l.length l.length T) :
    ∀ (d i : Nat), i + d = l.length → Ev (fun k => plunderref19_Orders.l0 k (l.length : Int) A B T (i : Int)) true := by
  intro d
  induction d with
  | zero =>
    intro i hi
    refine Ev.step (f := fun _ => some true) (fun k => ?_) (Ev.now _)
    simp only [plunderref19_Orders.l0]
    rw [if_neg (by omega)]
  | succ d ih =>
    intro i hi
    refine Ev.step (fun k => ?_) (refo_l1 h hA hB hA1 hB1 hT i (by omega) l.length 0 (by omega) true (ih (i + 1) (by omega)))
    simp only [plunderref19_Orders.l0]
    rw [if_pos (by omega)]
    rfl
theorem range_idx (n i : Nat) (h : i < n) : (List.range n).idxOf i = i := by
  have := idx_at (List.nodup_range (n := n)) (j := i) (by rw [List.length_range]; exact h)
  rwa [List.getElem_range] at this
theorem refOrders_ev {l : List S52} (h : Good l) (hl : l.length < 1099511627776) (h0 : (chk l).1 = 0) : Ev (fun k => plunderref19_Orders.f k l (ints (List.range l.length)) (ints (ord l)) 0) true := by
  unfold plunderref19_Orders.f
  obtain ⟨A, a1, a2, a3⟩ := refpl_ev (List.range l.length) List.nodup_range l.length List.length_range (fun x => List.mem_range) h.len
  obtain ⟨B, b1, b2, b3⟩ := refpl_ev (ord l) (ord_nodup h) l.length (ord_len h) (fun x => ord_mem h x) h.len
  obtain ⟨T, t1, t2⟩ := before_ev h
  refine Ev.bind (refCheck_ev l hl) ?_
  simp only [if_pos h0]
  refine Ev.bind a1 ?_
  refine Ev.bind b1 ?_
  simp only [if_true, Bool.not_true]
  have key : Ev (fun k => plunderref19_Orders.l0 k (l.length : Int) A B T ((0 : Nat) : Int)) true := refo_l0 h a2 b2 (fun i hi => by rw [a3 i hi, range_idx _ _ hi]) b3 t2 l.length 0 (by omega)
  refine Ev.step (f := fun k => (plunderref19_Before.f k l).bind fun t169 => plunderref19_Orders.l0 k (l.length : Int) A B t169 0) (fun k => ?_) (Ev.bind t1 key)
  simp only [plunderref19_Orders.j0, if_false, Bool.false_eq_true]
theorem orders_l0 {l : List S52} (h : Good l) : ∀ (d j : Nat), j + d = l.length → Ev (fun k => races_Orders.l0 k l (ints (List.range j)) (l.length : Int) (j : Int)) (ints (List.range l.length), ints (ord l), 0) := by
  have hb := h.len
  intro d
  induction d with
  | zero =>
    intro j hj
    have : j = l.length := by omega
    subst this
    refine Ev.step (f := fun _ => some (ints (List.range l.length), ints (ord l), 0)) (fun k => ?_) (Ev.now _)
    simp only [races_Orders.l0]
    rw [if_neg (by omega), late_ev h, Option.bind_some]
  | succ d ih =>
    intro j hj
    refine Ev.step (fun k => ?_) (ih (j + 1) (by omega))
    simp only [races_Orders.l0]
    rw [if_pos (by omega), if_pos (by rw [ints_len, List.length_range]; omega), w64s (by omega), List.range_succ, ints_app]
    rfl
theorem orders_ev (l : List S52) (hl : l.length < 1099511627776) : ∃ a b c, Ev (fun k => races_Orders.f k l) (a, b, c) ∧ Ev (fun k => plunderref19_Orders.f k l a b c) true ∧ a.length ≤ 4096 ∧ b.length ≤ 4096 := by
  by_cases h0 : (chk l).1 = 0
  · have h := chk_good h0
    refine ⟨ints (List.range l.length), ints (ord l), 0, ?_, refOrders_ev h hl h0, by rw [ints_len, List.length_range]; exact h.len, by rw [ints_len, ord_len h]; exact h.len⟩
    unfold races_Orders.f
    refine Ev.bind (racesCheck_ev l hl) ?_
    simp only [if_pos h0]
    exact orders_l0 h l.length 0 (by omega)
  · refine ⟨[], [], (chk l).1, ?_, ?_, by simp, by simp⟩
    · unfold races_Orders.f
      refine Ev.bind (racesCheck_ev l hl) ?_
      simp only [if_neg h0]
      exact Ev.now _
    · unfold plunderref19_Orders.f
      refine Ev.bind (refCheck_ev l hl) ?_
      simp only [if_neg h0, if_true]
      exact Ev.now _
theorem ordersPlaced_ev (l : List S52) (hl : l.length < 1099511627776) : Ev (fun k => plunderlaw19_ordersPlaced.f k l) true := by
  unfold plunderlaw19_ordersPlaced.f
  have hm : (l.map tnE).length = l.length := by simp
  have h0 : (0 : Int) ≤ ((l.map tnE).length : Int) := by omega
  have h1 : ((l.map tnE).length : Int) ≤ ((l.map tnE ++ odd).length : Int) := by simp [odd]; omega
  have h3 : (l.map tnE ++ odd).take (((l.map tnE).length : Int)).toNat = l.map tnE := by simp
  obtain ⟨a, b, c, e1, e2, -⟩ := orders_ev (l.map tnE) (by omega)
  obtain ⟨p, q, r, e3, e4, -⟩ := orders_ev l hl
  refine Ev.bind (turned_ev l hl) ?_
  refine Ev.bind (spare_ev _ (by omega)) ?_
  simp only [if_pos h0, if_pos h1, h3, Option.bind_some]
  refine Ev.bind e1 ?_
  refine Ev.bind (lay_ev _ l hl (by simp)) ?_
  refine Ev.bind e3 ?_
  refine Ev.bind e2 ?_
  simp only [if_true]
  refine Ev.bind e4 ?_
  exact Ev.now true
theorem fill_l0 (a : Int) (n : Nat) (hb : n ≤ 4096) : ∀ (d j : Nat) (x : List Int), j + d = n → x.length = n → x.take j = List.replicate j a → Ev (fun k => plunderlaw19_fill.l0 k x a (j : Int)) (List.replicate n a) := by
  intro d
  induction d with
  | zero =>
    intro j x hj hx ht
    have : j = n := by omega
    subst this
    rw [List.take_of_length_le (by omega)] at ht
    subst ht
    refine Ev.step (f := fun _ => some (List.replicate j a)) (fun k => ?_) (Ev.now _)
    simp only [plunderlaw19_fill.l0]
    rw [if_neg (by omega)]
  | succ d ih =>
    intro j x hj hx ht
    refine Ev.step (fun k => ?_) (ih (j + 1) (x.set j a) (by omega) (by rw [List.length_set]; exact hx) ?_)
    · simp only [plunderlaw19_fill.l0]
      rw [if_pos (by omega), if_pos (by omega), w64s (by omega), Int.toNat_natCast]
    · rw [List.take_add_one, List.take_set_of_le (Nat.le_refl _), ht, List.getElem?_set, if_pos rfl, if_pos (by omega), List.replicate_succ']
      rfl
theorem fill_ev (a : Int) (l : List Int) (hb : l.length ≤ 4096) : Ev (fun k => plunderlaw19_fill.f k l a) (List.replicate l.length a) := fill_l0 a l.length hb l.length 0 l (by omega) rfl (by simp)
theorem full_l0 (a : Int) (n : Nat) (hb : n ≤ 4096) : ∀ (d j : Nat), j + d = n → Ev (fun k => plunderlaw19_full.l0 k (List.replicate n a) a (j : Int)) true := by
  intro d
  induction d with
  | zero =>
    intro j hj
    refine Ev.step (f := fun _ => some true) (fun k => ?_) (Ev.now _)
    simp only [plunderlaw19_full.l0]
    rw [if_neg (by rw [List.length_replicate]; omega)]
  | succ d ih =>
    intro j hj
    refine Ev.step (fun k => ?_) (ih (j + 1) (by omega))
    simp only [plunderlaw19_full.l0]
    rw [if_pos (by rw [List.length_replicate]; omega), if_pos (by omega), if_pos (by rw [rd_get, List.getD_eq_getElem?_getD, List.getElem?_replicate, if_pos (by omega)]; rfl), w64s (by omega)]
theorem full_ev (a : Int) (n : Nat) (hb : n ≤ 4096) : Ev (fun k => plunderlaw19_full.f k (List.replicate n a) a) true := full_l0 a n hb n 0 (by omega)
end Go.Proofs.Ytkecgjmbamaejaa.P
namespace Go.Proofs.Ytkecgjmbamaejaa.P
open Go.RowKit Go.Proofs.YtkecgjmbamaejaaW.PrintWords Go.Proofs.YtkecgjmbamaejaaW.PrintLast Go.Proofs.YtkecgjmbamaejaaW.PrintMore
set_option linter.unusedVariables false
set_option linter.unusedSimpArgs false
set_option maxHeartbeats 1000000

/-- Where the new row lies, and that a fresh one leaves the old block as it was. -/
theorem append_far {P : Program} (w : World) (base : Nat) (t ty e : TypeId) (i : TypeInfo) (z : Value) (ht : P.underlying t = some (.slice e)) (hi : P.info? e = some i) (hz : i.zero = some z)
    (v : Value) (n : Nat) (xs : List Value) (hown : w.ownsRow base e i.size v n xs)
    (a : Addr) (m c : Nat) (news : List Value) (hl : news.length = m * i.size) (hnews : ∀ j u, news[j]? = some u → w.cell? (a.add j) = some u) (h1 : ∀ u ∈ news, u.oneCell' = true)
    (h63 : n + m ≤ maxLen) (hbytes : (n + m) * i.bytes ≤ 140737488355328)
    {v' : Value} {w' : World} (hr : (Builtin.append_ #[t, t] ty #[v, .slice (some a) m c]).run P w = .ok v' w') (hg : w.grownBy w' v.ownBlock) (hat : v'.ownBlock = v.ownBlock ∨ v'.ownBlock = some w.heap.size) :
    v'.ownBlock = v.ownBlock ∨ (v'.ownBlock = some w.heap.size ∧ w.grownBy w' none) := by
  rcases hat with h | h
  · exact .inl h
  · refine .inr ⟨h, ?_⟩
    rcases hown.2 with ⟨rfl, rfl⟩ | ⟨g, cap, cur, rfl, hbg, hgg, hnc, hcm, hcs, htake⟩
    · exact hg
    · by_cases hroom : n + m ≤ cap
      · have hfit : n * i.size + news.length ≤ cur.size := by rw [hl, hcs, ← Nat.add_mul]; exact Nat.mul_le_mul_right _ hroom
        have hr2 := run_append_room (P := P) w t ty e i ht hi g n cap cur hgg a m c news hl hnews h1 hroom hfit
        rw [hr] at hr2
        injection hr2 with e1 e2
        rw [e1] at h
        have hlt := blk_lt hgg
        have h' : some g = some w.heap.size := h
        injection h' with h'
        omega
      · have holds : ∀ j u, xs[j]? = some u → w.cell? ((⟨g, 0, none⟩ : Addr).add j) = some u := hown.cells (g := g) rfl
        have hr2 := run_append_grow (P := P) w t ty e i z ht hi hz ⟨g, 0, none⟩ n cap xs hown.1 holds a m c news hl hnews (by omega) (by simp only [maxLen] at h63; omega) (growslice_fits (by omega) hbytes)
        rw [hr] at hr2
        injection hr2 with e1 e2
        subst e2
        exact ⟨rfl, rfl, rfl, by simp, fun k hk _ => heap_alloc_old w.drew _ hk⟩

abbrev RI (W : World) (base : Nat) (ok : Nat → Prop) (v : Value) (l : List Int) : Prop := Kd.R (Kd.int .i64) 3 W base ok v l

structure GR (w0 w W : World) (u : Value) (l0 : List Int) (v : Value) (x : List Int) : Prop where
  R : RI W w0.heap.size (fun k => some k = u.ownBlock ∨ w.heap.size ≤ k) v x
  B : Below w0.heap.size w0 W
  K : Kept w W (fun k => some k = u.ownBlock)
  S : ∃ v' y, RI W w0.heap.size (fun k => some k = u.ownBlock) v' y ∧ v'.ownBlock = u.ownBlock ∧ l0 <+: y ∧ ((v = v' ∧ x = y) ∨ v.ownBlock ≠ u.ownBlock)
theorem GR.start {w0 w : World} {u : Value} {l0 : List Int} (hB : Below w0.heap.size w0 w) (h : RI w w0.heap.size (fun k => some k = u.ownBlock) u l0) : GR w0 w w u l0 u l0 :=
  ⟨Kd.R_mono h (fun _ hk => .inl hk), hB, Kept.refl w _, u, l0, h, rfl, List.prefix_refl _, .inl ⟨rfl, rfl⟩⟩
theorem GR.below {w0 w W W1 : World} {u v : Value} {l0 x : List Int} (h : GR w0 w W u l0 v x) (hb : Below W.heap.size W W1) : GR w0 w W1 u l0 v x := by
  obtain ⟨v', y, h1, h2, h3, h4⟩ := h.S
  exact ⟨Kd.R_below h.R hb, below_step h.B hb, ⟨Nat.le_trans h.K.1 (below_size hb), fun i hi hn => (hb.block i (Nat.lt_of_lt_of_le hi h.K.1)).trans (h.K.2 i hi hn)⟩, v', y, Kd.R_below h1 hb, h2, h3, h4⟩
theorem GR.step {w0 w W w1 : World} {u v v1 : Value} {l0 x : List Int} {a : Int} (h : GR w0 w W u l0 v x) (ho : RI w1 w0.heap.size (fun k => some k = u.ownBlock ∨ w.heap.size ≤ k) v1 (x ++ [a])) (hb : Below w0.heap.size w0 w1) (hg : W.grownBy w1 v.ownBlock)
    (hat : v1.ownBlock = v.ownBlock ∨ ((∃ b, v1.ownBlock = some b ∧ W.heap.size ≤ b) ∧ W.grownBy w1 none)) : GR w0 w w1 u l0 v1 (x ++ [a]) := by
  obtain ⟨v', y, h1, h2, h3, h4⟩ := h.S
  refine ⟨ho, hb, Kept.of_grown hg h.K (fun k e => h.R.1 k e), ?_⟩
  have hfar : (∃ b, v1.ownBlock = some b ∧ W.heap.size ≤ b) → v1.ownBlock ≠ u.ownBlock := by
    rintro ⟨b, e, hle⟩ he
    have := Kd.R_lt h1 b (by rw [h2, ← he, e])
    omega
  rcases h4 with ⟨rfl, rfl⟩ | hne
  · rcases hat with hat | ⟨hat, hg0⟩
    · exact ⟨v1, x ++ [a], ⟨fun k hk => by show some k = u.ownBlock; rw [← hk, hat, h2], ho.2.imp_ (fun _ _ hp => hp)⟩, hat.trans h2, h3.trans (List.prefix_append _ _), .inl ⟨rfl, rfl⟩⟩
    · exact ⟨v, x, Kd.R_grown h1 hg0 (fun k _ => by simp), h2, h3, .inr (hfar hat)⟩
  · refine ⟨v', y, Kd.R_grown h1 hg (fun k hk e => hne (e.symm.trans hk)), h2, h3, .inr ?_⟩
    rcases hat with hat | ⟨hat, -⟩
    · rw [hat]; exact hne
    · exact hfar hat
abbrev RO (b : Nat) (W : World) (u : Value) (l : List Int) : Prop := RI W b (fun k => some k = u.ownBlock) u l
/-- the row is still there, in front of what has been laid behind it -/
def HD (b : Nat) (W : World) (u : Value) (l : List Int) : Prop := ∃ v' y, RI W b (fun k => some k = u.ownBlock) v' y ∧ v'.ownBlock = u.ownBlock ∧ l <+: y
theorem GR.hd {w0 w W : World} {u v : Value} {l0 x : List Int} (h : GR w0 w W u l0 v x) : HD w0.heap.size W u l0 := by
  obtain ⟨v', y, h1, h2, h3, -⟩ := h.S
  exact ⟨v', y, h1, h2, h3⟩
theorem HD.reads {b : Nat} {W : World} {A : Option Addr} {c : Nat} {l0 : List Int} (h : HD b W (.slice A l0.length c) l0) (hu : A = none ∨ ∃ g, A = some ⟨g, 0, none⟩) : Kd.C (Kd.int .i64) W A l0.length l0 := by
  obtain ⟨v', y, h1, h2, ⟨t, h3⟩⟩ := h
  by_cases hp : 0 < l0.length
  · have hy : 0 < y.length := by rw [← h3, List.length_append]; omega
    obtain ⟨g', cap', he', -⟩ := Kd.R_form h1 hy
    subst he'
    rcases hu with rfl | ⟨g, rfl⟩
    · have h2' : some g' = none := h2
      cases h2'
    · have h2' : some g' = some g := h2
      injection h2' with h2'
      subst h2'
      have hC := (Kd.R_reads' h1).2.2
      have := Kd.C_take (m := l0.length) hC (by rw [← h3, List.length_append]; omega)
      rwa [← h3, List.take_left' rfl] at this
  · have : l0 = [] := List.length_eq_zero_iff.mp (by omega)
    subst this
    exact ⟨rfl, by simp, fun h => absurd h (Nat.lt_irrefl 0)⟩
theorem RO.form {b : Nat} {ok : Nat → Prop} {W : World} {A : Option Addr} {n c : Nat} {l : List Int} (h : Kd.R (Kd.int .i64) 3 W b ok (.slice A n c) l) : A = none ∨ ∃ g, A = some ⟨g, 0, none⟩ := by
  obtain ⟨inner, ho⟩ := Kd.R_own h
  rcases ho.2 with ⟨e, -⟩ | ⟨g, cap, cur, e, -⟩
  · injection e with e1 e2 e3
    exact .inl e1
  · injection e with e1 e2 e3
    exact .inr ⟨g, e1⟩

section
variable {ops : Array Oper} {rest : List Oper} {o : Oper} {a : Act} {Q : Exit → Act → World → Prop}
theorem grow_app {w0 w W : World} {u v : Value} {l0 x : List Int} {m : Int} (hgd : o.guard = none) (s y : Operand) (ho : o.op = .call { callee := .builtin .append, args := #[s, y], argTypes := #[24, 24] })
    (hs : a.eval s = v) (hx : a.eval y = .slice (some ⟨W.heap.size, 0, none⟩) 1 1) (H : GR w0 w W u l0 v x) (hl : x.length + 1 ≤ 1099511627776)
    (h : ∀ v1 w1, GR w0 w w1 u l0 v1 (x ++ [m]) → wpList Try.prog ops Q rest (a.put o.dst v1) w1) :
    wpList Try.prog ops Q (o :: rest) a (W.alloc (.cells #[.int .i64 m] 3)) := by
  obtain ⟨i0, hi, hzz⟩ := Option.map_eq_some_iff.1 info3
  simp only [Prod.mk.injEq] at hzz
  obtain ⟨hz0, hz1, hz2⟩ := hzz
  have HO := H.R
  obtain ⟨h0, inner, hown, hr⟩ := HO
  have hbase : w0.heap.size ≤ W.heap.size := below_size H.B
  have hys : ([Value.int .i64 m] : List Value).length = 1 * 1 := rfl
  have hnews : ∀ j q, ([Value.int .i64 m] : List Value)[j]? = some q → (W.alloc (.cells #[.int .i64 m] 3)).cell? ((⟨W.heap.size, 0, none⟩ : Addr).add j) = some q := cell_one_new W (.int .i64 m) 3
  have hone : ∀ q ∈ ([Value.int .i64 m] : List Value), q.oneCell' = true := by intro q hq; simp at hq; subst hq; rfl
  have h63 : x.length + 1 ≤ maxLen := by simp only [maxLen]; omega
  refine wpList_plain hgd fun K hK => ?_
  obtain ⟨v1, w1, hrun, hown1, hg1, -, hat1⟩ := run_append_own_at (P := Try.prog) (W.alloc (.cells #[.int .i64 m] 3)) w0.heap.size 24 o.type 3 i0 (.int .i64 0) 1 8 Try.underlying24 hi hz0 hz1 hz2 rfl (by decide) v x.length inner (hown.alloc _) ⟨W.heap.size, 0, none⟩ 1 1 [.int .i64 m] hys hnews hone h63 (by omega) (by simp; omega)
  have hat := append_far (P := Try.prog) (W.alloc (.cells #[.int .i64 m] 3)) w0.heap.size 24 o.type 3 i0 (.int .i64 0) Try.underlying24 hi hz0 v x.length inner (by rw [hz1]; exact hown.alloc _) ⟨W.heap.size, 0, none⟩ 1 1 [.int .i64 m] (by rw [hz1]; rfl) hnews hone h63 (by rw [hz2]; omega) hrun hg1 hat1
  have hB1 : Below w0.heap.size w0 w1 := ((H.B.alloc hbase _).grown hg1 (by simp; omega) (own_base hown))
  have hgW : W.grownBy w1 v.ownBlock := World.grownBy.trans (World.grownBy_alloc W _ _) hg1
  have hatR : v1.ownBlock = v.ownBlock ∨ ∃ b, v1.ownBlock = some b ∧ W.heap.size ≤ b := by
    rcases hat1 with hat | hat
    · exact .inl hat
    · exact .inr ⟨_, hat, by simp⟩
  have hR1 : RI w1 w0.heap.size (fun k => some k = u.ownBlock ∨ w.heap.size ≤ k) v1 (x ++ [m]) :=
    Kd.R_appended (okp := fun _ => False) h0 hr rfl (fun _ hk => hk.elim) (fun k hk => .inr (Nat.le_trans H.K.1 hk)) hown1 hgW hatR
  unfold Oper.wp execOp
  simp only [ho, resolve, invoke, builtin, Sem.run_bind, Sem.run_pure, Result.andThen_ok, List.map_toArray, List.map_cons, List.map_nil, hs, hx, hrun]
  refine hK _ _ (h v1 w1 (H.step hR1 hB1 hgW ?_))
  rcases hat with hat | ⟨hat, hg0⟩
  · exact .inl hat
  · exact .inr ⟨⟨_, hat, by simp⟩, World.grownBy.trans (World.grownBy_alloc W _ _) hg0⟩
end

theorem grown_calls {u : Value} {l0 : List Int} {m : Int} {w0 w : World} (hB : Below w0.heap.size w0 w) (hu : RO w0.heap.size w u l0) (hl : l0.length ≤ 1048576) :
    Calls Try.prog 16 #[u, .int .i64 m] w fun e w' => e = .returned (.tuple #[]) ∧ Below w0.heap.size w0 w' ∧ Kept w w' (fun k => some k = u.ownBlock) ∧ HD w0.heap.size w' u l0 := by
  have HG := Aside0.mk (GR.start hB hu)
  have hL := Aside0.mk hl
  clear hB hu hl
  go_enter Try.func16, Try.ntmps16
  go_wp2
  go_loopg [0, 4] 66 (fun kq v0 v4 w' => ∃ (x : List Int) (i : Nat), v4 = .int .i64 (i : Int) ∧ Aside0 (i + kq = 66 ∧ i ≤ 64 ∧ x.length = l0.length + i) ∧ Aside0 (GR w0 w w' u l0 v0 x))
  case atStart => exact ⟨l0, 0, rfl, ⟨by simp⟩, HG⟩
  case round =>
    clear HG
    obtain ⟨x, i, rfl, HK, HG⟩ := hrel
    by_cases c3 : (i : Int) < 64
    · have c3b0 : decide ((i : Int) < 64) = true := decide_eq_true c3
      have hi64 : (i : Int) ≤ 64 := by omega
      have H3 := Aside0.mk c3
      clear c3
      go_wp2_with (first | ((with_reducible refine gate_builtin (b := .append) (xs := #[.tmp 9, .tmp 11]) rfl ?_); at_builtin; refine grow_app (m := m) rfl (.tmp 9) (.tmp 11) rfl rfl rfl HG.out ?aL ?_; (case aL => have := HK.out; have := hL.out; omega); intro v1 w1 h1; have HG1 := Aside0.mk h1; clear HG h1))
      go_roundg (65 - i)
      case measure => have := HK.out; omega
      case rel => exact ⟨x ++ [m], i + 1, by first | rfl | (congr 1; done) | (congr 1; unfold wrap64; omega), ⟨by have := HK.out; have := H3.out; rw [List.length_append, List.length_singleton]; omega⟩, HG1⟩
    · have c3b0 : decide ((i : Int) < 64) = false := decide_eq_false c3
      clear c3
      go_wp2
      first | go_end0 | ((try simp only [Exit.inBlock, Exit.then]); refine bodyPost_ret (results_none rfl _ _ _) rfl ?_)
      exact ⟨by first | rfl | (simp [errW_none, errW_some] <;> rfl), HG.out.B, HG.out.K, HG.out.hd⟩
end Go.Proofs.Ytkecgjmbamaejaa.P
namespace Go.Proofs.Ytkecgjmbamaejaa.P
open Go.RowKit Go.Proofs.YtkecgjmbamaejaaW.PrintWords Go.Proofs.YtkecgjmbamaejaaW.PrintLast Go.Proofs.YtkecgjmbamaejaaW.PrintMore
set_option linter.unusedVariables false
set_option linter.unusedSimpArgs false
set_option maxHeartbeats 1000000

def RH (q : Bool) (b : Nat) (W : World) (u : Value) (l : List Int) : Prop := match q with
  | true => HD b W u l
  | false => RO b W u l
theorem HD.kept {b : Nat} {W w' : World} {u : Value} {l : List Int} {S : Nat → Prop} (h : HD b W u l) (hk : Kept W w' S) (ne : ∀ k, some k = u.ownBlock → ¬ S k) : HD b w' u l := by
  obtain ⟨v', y, h1, h2, h3⟩ := h
  exact ⟨v', y, Kd.R_step h1 (fun k ho hlt => hk.2 k hlt (ne k ho)), h2, h3⟩
theorem RO.kept {b : Nat} {W w' : World} {u : Value} {l : List Int} {S : Nat → Prop} (h : RO b W u l) (hk : Kept W w' S) (ne : ∀ k, some k = u.ownBlock → ¬ S k) : RO b w' u l := Kd.R_step h (fun k ho hlt => hk.2 k hlt (ne k ho))
theorem RH.kept {q : Bool} {b : Nat} {W w' : World} {u : Value} {l : List Int} {S : Nat → Prop} (h : RH q b W u l) (hk : Kept W w' S) (ne : ∀ k, some k = u.ownBlock → ¬ S k) : RH q b w' u l := by
  cases q
  · exact RO.kept h hk ne
  · exact HD.kept h hk ne
theorem RH.below {q : Bool} {b : Nat} {W w' : World} {u : Value} {l : List Int} (h : RH q b W u l) (hb : Below W.heap.size W w') : RH q b w' u l :=
  h.kept (S := fun _ => False) ⟨below_size hb, fun i hi _ => hb.block i hi⟩ (fun _ _ h => h)
theorem RO.hd {b : Nat} {W : World} {u : Value} {l : List Int} (h : RO b W u l) : HD b W u l := ⟨u, l, h, rfl, List.prefix_refl _⟩
theorem RH.hd {q : Bool} {b : Nat} {W : World} {u : Value} {l : List Int} (h : RH q b W u l) : HD b W u l := by
  cases q
  · exact RO.hd h
  · exact h
def NE (u v : Value) : Prop := ∀ k, some k = u.ownBlock → some k ≠ v.ownBlock
theorem NE.symm {u v : Value} (h : NE u v) : NE v u := fun k hk hu => h k hu hk

structure St (w w1 W : World) (A0 : Option Addr) (l : List S52) (A3 : Option Addr) (g : List S52) (q1 q2 q3 q4 : Bool) (u1 u2 u3 u4 : Value) (l1 l2 l3 l4 : List Int) : Prop where
  W1 : Below w.heap.size w w1
  B : Below w1.heap.size w1 W
  D : Kd.C k52 w A0 l.length l
  G : Kd.C k52 w1 A3 g.length g
  h1 : RH q1 w1.heap.size W u1 l1
  h2 : RH q2 w1.heap.size W u2 l2
  h3 : RH q3 w1.heap.size W u3 l3
  h4 : RH q4 w1.heap.size W u4 l4
  n12 : NE u1 u2
  n13 : NE u1 u3
  n14 : NE u1 u4
  n23 : NE u2 u3
  n24 : NE u2 u4
  n34 : NE u3 u4
section
variable {w w1 W : World} {A0 : Option Addr} {l : List S52} {A3 : Option Addr} {g : List S52} {q1 q2 q3 q4 : Bool} {u1 u2 u3 u4 : Value} {l1 l2 l3 l4 : List Int}
theorem St.bw (h : St w w1 W A0 l A3 g q1 q2 q3 q4 u1 u2 u3 u4 l1 l2 l3 l4) : Below w.heap.size w W := below_step h.W1 h.B
theorem St.d (h : St w w1 W A0 l A3 g q1 q2 q3 q4 u1 u2 u3 u4 l1 l2 l3 l4) : Kd.C k52 W A0 l.length l := Kd.C_below h.D h.bw
theorem St.gc (h : St w w1 W A0 l A3 g q1 q2 q3 q4 u1 u2 u3 u4 l1 l2 l3 l4) : Kd.C k52 W A3 g.length g := Kd.C_below h.G h.B
theorem St.rot (h : St w w1 W A0 l A3 g q1 q2 q3 q4 u1 u2 u3 u4 l1 l2 l3 l4) : St w w1 W A0 l A3 g q2 q3 q4 q1 u2 u3 u4 u1 l2 l3 l4 l1 :=
  ⟨h.W1, h.B, h.D, h.G, h.h2, h.h3, h.h4, h.h1, h.n23, h.n24, h.n12.symm, h.n34, h.n13.symm, h.n14.symm⟩
theorem St.below {W' : World} (h : St w w1 W A0 l A3 g q1 q2 q3 q4 u1 u2 u3 u4 l1 l2 l3 l4) (hb : Below W.heap.size W W') : St w w1 W' A0 l A3 g q1 q2 q3 q4 u1 u2 u3 u4 l1 l2 l3 l4 :=
  ⟨h.W1, below_step h.B hb, h.D, h.G, h.h1.below hb, h.h2.below hb, h.h3.below hb, h.h4.below hb, h.n12, h.n13, h.n14, h.n23, h.n24, h.n34⟩
theorem St.drewN (h : St w w1 W A0 l A3 g q1 q2 q3 q4 u1 u2 u3 u4 l1 l2 l3 l4) (n : Nat) : St w w1 (W.drewN n) A0 l A3 g q1 q2 q3 q4 u1 u2 u3 u4 l1 l2 l3 l4 := h.below (pw_below_drewN (Below.refl _ _) n)
theorem St.drew (h : St w w1 W A0 l A3 g q1 q2 q3 q4 u1 u2 u3 u4 l1 l2 l3 l4) : St w w1 W.drew A0 l A3 g q1 q2 q3 q4 u1 u2 u3 u4 l1 l2 l3 l4 := h.below (below_drew (Below.refl _ _))
theorem St.kept1 {q : Bool} {l' : List Int} {W' : World} (h : St w w1 W A0 l A3 g q1 q2 q3 q4 u1 u2 u3 u4 l1 l2 l3 l4) (hB : Below w1.heap.size w1 W') (hk : Kept W W' (fun k => some k = u1.ownBlock)) (h1 : RH q w1.heap.size W' u1 l') : St w w1 W' A0 l A3 g q q2 q3 q4 u1 u2 u3 u4 l' l2 l3 l4 :=
  ⟨h.W1, hB, h.D, h.G, h1, h.h2.kept hk (fun k e e' => h.n12 k e' e), h.h3.kept hk (fun k e e' => h.n13 k e' e), h.h4.kept hk (fun k e e' => h.n14 k e' e), h.n12, h.n13, h.n14, h.n23, h.n24, h.n34⟩
theorem St.fill1 {a : Int} {k : Nat} {r : List Int} (h : St w w1 W A0 l A3 g false q2 q3 q4 u1 u2 u3 u4 l1 l2 l3 l4) (hf : plunderlaw19_fill.f k l1 a = some r) :
    Calls Try.prog 15 #[u1, .int .i64 a] W fun e w' => e = .returned (.tuple #[]) ∧ St w w1 w' A0 l A3 g false q2 q3 q4 u1 u2 u3 u4 r l2 l3 l4 := by
  refine (plunderlaw19_fill.calls k (fun k => some k = u1.ownBlock) u1 l1 a r w1 W h.B h.h1 hf).mono ?_
  rintro e w' ⟨rfl, hr, hb, hk⟩
  exact ⟨rfl, h.kept1 hb hk (Kd.R_tight rfl hr)⟩
theorem St.fill2 {a : Int} {k : Nat} {r : List Int} (h : St w w1 W A0 l A3 g q1 false q3 q4 u1 u2 u3 u4 l1 l2 l3 l4) (hf : plunderlaw19_fill.f k l2 a = some r) :
    Calls Try.prog 15 #[u2, .int .i64 a] W fun e w' => e = .returned (.tuple #[]) ∧ St w w1 w' A0 l A3 g q1 false q3 q4 u1 u2 u3 u4 l1 r l3 l4 :=
  (h.rot.fill1 hf).mono fun e w' hh => ⟨hh.1, hh.2.rot.rot.rot⟩
theorem St.fill3 {a : Int} {k : Nat} {r : List Int} (h : St w w1 W A0 l A3 g q1 q2 false q4 u1 u2 u3 u4 l1 l2 l3 l4) (hf : plunderlaw19_fill.f k l3 a = some r) :
    Calls Try.prog 15 #[u3, .int .i64 a] W fun e w' => e = .returned (.tuple #[]) ∧ St w w1 w' A0 l A3 g q1 q2 false q4 u1 u2 u3 u4 l1 l2 r l4 :=
  (h.rot.rot.fill1 hf).mono fun e w' hh => ⟨hh.1, hh.2.rot.rot⟩
theorem St.fill4 {a : Int} {k : Nat} {r : List Int} (h : St w w1 W A0 l A3 g q1 q2 q3 false u1 u2 u3 u4 l1 l2 l3 l4) (hf : plunderlaw19_fill.f k l4 a = some r) :
    Calls Try.prog 15 #[u4, .int .i64 a] W fun e w' => e = .returned (.tuple #[]) ∧ St w w1 w' A0 l A3 g q1 q2 q3 false u1 u2 u3 u4 l1 l2 l3 r :=
  (h.rot.rot.rot.fill1 hf).mono fun e w' hh => ⟨hh.1, hh.2.rot⟩
theorem St.grown1 {a : Int} (h : St w w1 W A0 l A3 g false q2 q3 q4 u1 u2 u3 u4 l1 l2 l3 l4) (hl : l1.length ≤ 1048576) :
    Calls Try.prog 16 #[u1, .int .i64 a] W fun e w' => e = .returned (.tuple #[]) ∧ St w w1 w' A0 l A3 g true q2 q3 q4 u1 u2 u3 u4 l1 l2 l3 l4 := by
  refine (grown_calls h.B h.h1 hl).mono ?_
  rintro e w' ⟨rfl, hb, hk, hd⟩
  exact ⟨rfl, h.kept1 hb hk hd⟩
theorem St.grown2 {a : Int} (h : St w w1 W A0 l A3 g q1 false q3 q4 u1 u2 u3 u4 l1 l2 l3 l4) (hl : l2.length ≤ 1048576) :
    Calls Try.prog 16 #[u2, .int .i64 a] W fun e w' => e = .returned (.tuple #[]) ∧ St w w1 w' A0 l A3 g q1 true q3 q4 u1 u2 u3 u4 l1 l2 l3 l4 :=
  (h.rot.grown1 hl).mono fun e w' hh => ⟨hh.1, hh.2.rot.rot.rot⟩
theorem St.grown3 {a : Int} (h : St w w1 W A0 l A3 g q1 q2 false q4 u1 u2 u3 u4 l1 l2 l3 l4) (hl : l3.length ≤ 1048576) :
    Calls Try.prog 16 #[u3, .int .i64 a] W fun e w' => e = .returned (.tuple #[]) ∧ St w w1 w' A0 l A3 g q1 q2 true q4 u1 u2 u3 u4 l1 l2 l3 l4 :=
  (h.rot.rot.grown1 hl).mono fun e w' hh => ⟨hh.1, hh.2.rot.rot⟩
theorem St.grown4 {a : Int} (h : St w w1 W A0 l A3 g q1 q2 q3 false u1 u2 u3 u4 l1 l2 l3 l4) (hl : l4.length ≤ 1048576) :
    Calls Try.prog 16 #[u4, .int .i64 a] W fun e w' => e = .returned (.tuple #[]) ∧ St w w1 w' A0 l A3 g q1 q2 q3 true u1 u2 u3 u4 l1 l2 l3 l4 :=
  (h.rot.rot.rot.grown1 hl).mono fun e w' hh => ⟨hh.1, hh.2.rot⟩
/-- the first row is read -/
theorem St.read1 {A : Option Addr} {n c : Nat} (h : St w w1 W A0 l A3 g q1 q2 q3 q4 (.slice A n c) u2 u3 u4 l1 l2 l3 l4) (hn : l1.length = n) (hA : A = none ∨ ∃ g, A = some ⟨g, 0, none⟩) : Kd.C (Kd.int .i64) W A l1.length l1 := by
  subst hn
  exact h.h1.hd.reads hA
theorem St.full1 {a : Int} {k : Nat} {A : Option Addr} {n c : Nat} (h : St w w1 W A0 l A3 g q1 q2 q3 q4 (.slice A n c) u2 u3 u4 (List.replicate n a) l2 l3 l4) (hA : A = none ∨ ∃ g, A = some ⟨g, 0, none⟩) (hc : n ≤ c) (hf : plunderlaw19_full.f k (List.replicate n a) a = some true) :
    Calls Try.prog 17 #[.slice A n c, .int .i64 a] W fun e w' => e = .returned (.bool true) ∧ St w w1 w' A0 l A3 g q1 q2 q3 q4 (.slice A n c) u2 u3 u4 (List.replicate n a) l2 l3 l4 := by
  have hlen : (List.replicate n a).length = n := List.length_replicate
  have hC := h.read1 hlen hA
  have := plunderlaw19_full.calls k A c (List.replicate n a) a true W hC (by rw [hlen]; exact hc) hf
  rw [hlen] at this
  refine this.mono ?_
  rintro e w' ⟨rfl, ⟨nd, rfl⟩⟩
  exact ⟨rfl, h.drewN nd⟩
theorem St.full2 {a : Int} {k : Nat} {A : Option Addr} {n c : Nat} (h : St w w1 W A0 l A3 g q1 q2 q3 q4 u1 (.slice A n c) u3 u4 l1 (List.replicate n a) l3 l4) (hA : A = none ∨ ∃ g, A = some ⟨g, 0, none⟩) (hc : n ≤ c) (hf : plunderlaw19_full.f k (List.replicate n a) a = some true) :
    Calls Try.prog 17 #[.slice A n c, .int .i64 a] W fun e w' => e = .returned (.bool true) ∧ St w w1 w' A0 l A3 g q1 q2 q3 q4 u1 (.slice A n c) u3 u4 l1 (List.replicate n a) l3 l4 :=
  (h.rot.full1 hA hc hf).mono fun e w' hh => ⟨hh.1, hh.2.rot.rot.rot⟩
theorem St.full3 {a : Int} {k : Nat} {A : Option Addr} {n c : Nat} (h : St w w1 W A0 l A3 g q1 q2 q3 q4 u1 u2 (.slice A n c) u4 l1 l2 (List.replicate n a) l4) (hA : A = none ∨ ∃ g, A = some ⟨g, 0, none⟩) (hc : n ≤ c) (hf : plunderlaw19_full.f k (List.replicate n a) a = some true) :
    Calls Try.prog 17 #[.slice A n c, .int .i64 a] W fun e w' => e = .returned (.bool true) ∧ St w w1 w' A0 l A3 g q1 q2 q3 q4 u1 u2 (.slice A n c) u4 l1 l2 (List.replicate n a) l4 :=
  (h.rot.rot.full1 hA hc hf).mono fun e w' hh => ⟨hh.1, hh.2.rot.rot⟩
theorem St.full4 {a : Int} {k : Nat} {A : Option Addr} {n c : Nat} (h : St w w1 W A0 l A3 g q1 q2 q3 q4 u1 u2 u3 (.slice A n c) l1 l2 l3 (List.replicate n a)) (hA : A = none ∨ ∃ g, A = some ⟨g, 0, none⟩) (hc : n ≤ c) (hf : plunderlaw19_full.f k (List.replicate n a) a = some true) :
    Calls Try.prog 17 #[.slice A n c, .int .i64 a] W fun e w' => e = .returned (.bool true) ∧ St w w1 w' A0 l A3 g q1 q2 q3 q4 u1 u2 u3 (.slice A n c) l1 l2 l3 (List.replicate n a) :=
  (h.rot.rot.rot.full1 hA hc hf).mono fun e w' hh => ⟨hh.1, hh.2.rot⟩
theorem St.untouched {k c0 c3 : Nat} (h : St w w1 W A0 l A3 g q1 q2 q3 q4 u1 u2 u3 u4 l1 l2 l3 l4) (hc0 : l.length ≤ c0) (hc3 : g.length ≤ c3) (hf : plunderlaw19_untouched.f k g l = some true) :
    Calls Try.prog 18 #[.slice A3 g.length c3, .slice A0 l.length c0] W fun e w' => e = .returned (.bool true) ∧ St w w1 w' A0 l A3 g q1 q2 q3 q4 u1 u2 u3 u4 l1 l2 l3 l4 := by
  refine (plunderlaw19_untouched.calls k A3 c3 g A0 c0 l true W h.gc hc3 h.d hc0 hf).mono ?_
  rintro e w' ⟨rfl, ⟨nd, rfl⟩⟩
  exact ⟨rfl, h.drewN nd⟩
theorem St.placed {k c0 : Nat} (h : St w w1 W A0 l A3 g q1 q2 q3 q4 u1 u2 u3 u4 l1 l2 l3 l4) (hc0 : l.length ≤ c0) (hf : plunderlaw19_ordersPlaced.f k l = some true) :
    Calls Try.prog 19 #[.slice A0 l.length c0] W fun e w' => e = .returned (.bool true) ∧ St w w1 w' A0 l A3 g q1 q2 q3 q4 u1 u2 u3 u4 l1 l2 l3 l4 := by
  refine (plunderlaw19_ordersPlaced.calls k A0 c0 l true W h.d hc0 hf).mono ?_
  rintro e w' ⟨rfl, hb⟩
  exact ⟨rfl, h.below hb⟩
theorem St.ref {k c0 : Nat} {A4 A5 : Option Addr} {c4 c5 : Nat} {x : Int} (h : St w w1 W A0 l A3 g false false q3 q4 (.slice A4 l1.length c4) (.slice A5 l2.length c5) u3 u4 l1 l2 l3 l4) (hc0 : l.length ≤ c0) (hf : plunderref19_Orders.f k l l1 l2 x = some true) :
    Calls Try.prog 14 #[.slice A0 l.length c0, .slice A4 l1.length c4, .slice A5 l2.length c5, .int .i64 x] W fun e w' => e = .returned (.bool true) ∧ St w w1 w' A0 l A3 g false false q3 q4 (.slice A4 l1.length c4) (.slice A5 l2.length c5) u3 u4 l1 l2 l3 l4 := by
  refine (plunderref19_Orders.calls k A0 c0 l A4 c4 l1 A5 c5 l2 x true W h.d hc0 (Kd.R_reads' h.h1).2.2 (Kd.R_reads' h.h1).2.1 (Kd.R_reads' h.h2).2.2 (Kd.R_reads' h.h2).2.1 hf).mono ?_
  rintro e w' ⟨rfl, hb⟩
  exact ⟨rfl, h.below hb⟩
theorem St.ref2 {k c0 : Nat} {A4 A5 : Option Addr} {c4 c5 : Nat} {x : Int} (h : St w w1 W A0 l A3 g q1 q2 false false u1 u2 (.slice A4 l3.length c4) (.slice A5 l4.length c5) l1 l2 l3 l4) (hc0 : l.length ≤ c0) (hf : plunderref19_Orders.f k l l3 l4 x = some true) :
    Calls Try.prog 14 #[.slice A0 l.length c0, .slice A4 l3.length c4, .slice A5 l4.length c5, .int .i64 x] W fun e w' => e = .returned (.bool true) ∧ St w w1 w' A0 l A3 g q1 q2 false false u1 u2 (.slice A4 l3.length c4) (.slice A5 l4.length c5) l1 l2 l3 l4 :=
  (h.rot.rot.ref hc0 hf).mono fun e w' hh => ⟨hh.1, hh.2.rot.rot⟩
end

/-- behind the first call -/
structure S2 (w w1 W : World) (A0 : Option Addr) (l : List S52) (A3 : Option Addr) (g : List S52) (u1 u2 : Value) (l1 l2 : List Int) : Prop where
  W1 : Below w.heap.size w w1
  B : Below w1.heap.size w1 W
  D : Kd.C k52 w A0 l.length l
  G : Kd.C k52 w1 A3 g.length g
  h1 : RO w1.heap.size W u1 l1
  h2 : RO w1.heap.size W u2 l2
  n12 : NE u1 u2
theorem S2.drewN {w w1 W : World} {A0 A3 : Option Addr} {l g : List S52} {u1 u2 : Value} {l1 l2 : List Int} (h : S2 w w1 W A0 l A3 g u1 u2 l1 l2) (n : Nat) : S2 w w1 (W.drewN n) A0 l A3 g u1 u2 l1 l2 :=
  ⟨h.W1, below_step h.B (pw_below_drewN (Below.refl _ _) n), h.D, h.G, Kd.R_drewN h.h1 n, Kd.R_drewN h.h2 n, h.n12⟩
theorem S2.drew {w w1 W : World} {A0 A3 : Option Addr} {l g : List S52} {u1 u2 : Value} {l1 l2 : List Int} (h : S2 w w1 W A0 l A3 g u1 u2 l1 l2) : S2 w w1 W.drew A0 l A3 g u1 u2 l1 l2 :=
  ⟨h.W1, below_step h.B (below_drew (Below.refl _ _)), h.D, h.G, Kd.R_drew h.h1, Kd.R_drew h.h2, h.n12⟩
/-- behind spare -/
structure S1 (w w1 W : World) (A0 : Option Addr) (l : List S52) (A3 : Option Addr) (g : List S52) : Prop where
  W1 : Below w.heap.size w w1
  B : Below w1.heap.size w1 W
  D : Kd.C k52 w A0 l.length l
  G : Kd.C k52 w1 A3 g.length g
theorem S1.drewN {w w1 W : World} {A0 A3 : Option Addr} {l g : List S52} (h : S1 w w1 W A0 l A3 g) (n : Nat) : S1 w w1 (W.drewN n) A0 l A3 g := ⟨h.W1, below_step h.B (pw_below_drewN (Below.refl _ _) n), h.D, h.G⟩
theorem S1.drew {w w1 W : World} {A0 A3 : Option Addr} {l g : List S52} (h : S1 w w1 W A0 l A3 g) : S1 w w1 W.drew A0 l A3 g := ⟨h.W1, below_step h.B (below_drew (Below.refl _ _)), h.D, h.G⟩
theorem spare_s1 {w w1 : World} {A0 : Option Addr} {c0 k : Nat} {l g : List S52} (hb : Below w.heap.size w w1) (hD : Kd.C k52 w A0 l.length l) (hc0 : l.length ≤ c0) (hf : plunderlaw19_spare.f k l = some g) :
    Calls Try.prog 12 #[.slice A0 l.length c0] w1 fun e w' => ∃ A3 c3, e = .returned (.slice A3 g.length c3) ∧ g.length ≤ c3 ∧ S1 w w' w' A0 l A3 g := by
  refine (plunderlaw19_spare.calls k A0 c0 l g w1 (Kd.C_below hD hb) hc0 hf).mono ?_
  rintro e w' ⟨v, rfl, hr, hb2⟩
  obtain ⟨A3, c3, rfl⟩ := Kd.R_slice hr
  exact ⟨A3, c3, rfl, (Kd.R_reads' hr).2.1, below_step hb hb2, Below.refl _ _, hD, (Kd.R_reads' hr).2.2⟩
theorem cut_c {W : World} {A3 : Option Addr} {l g : List S52} (hg : g.take l.length = l) (hG : Kd.C k52 W A3 g.length g) : Kd.C k52 W A3 l.length l := by
  have hle : l.length ≤ g.length := by rw [← hg, List.length_take]; omega
  have := Kd.C_take (m := l.length) hG hle
  rwa [hg] at this
theorem cut_g {A3 : Option Addr} {c3 : Nat} {l g : List S52} (hg : g.take l.length = l) (hc : g.length ≤ c3) : ∀ W : World, (Instr.slice 22 (.slice A3 g.length c3) none (some (.int .i64 (l.length : Int))) none).run Try.prog W = .ok (.slice A3 l.length c3) W := by
  intro W
  have hle : l.length ≤ g.length := by rw [← hg, List.length_take]; omega
  obtain ⟨i0, hi, -, -, -⟩ := info_parts info52
  have := cut_to (P := Try.prog) 22 52 .i64 Try.underlying22 hi A3 g.length c3 (l.length : Int) (by omega) (by omega) hc W
  rwa [Int.toNat_natCast] at this
theorem S1.orders {w w1 W : World} {A0 A3 : Option Addr} {c3 k : Nat} {l g : List S52} {a b : List Int} {x : Int} (h : S1 w w1 W A0 l A3 g) (hg : g.take l.length = l) (hc : l.length ≤ c3) (hf : races_Orders.f k l = some (a, b, x)) :
    Calls Try.prog 13 #[.slice A3 l.length c3] W fun e w' => ∃ A4 c4 A5 c5, e = .returned (.tuple #[.slice A4 a.length c4, .slice A5 b.length c5, .int .i64 x]) ∧ S2 w w1 w' A0 l A3 g (.slice A4 a.length c4) (.slice A5 b.length c5) a b := by
  refine (races_Orders.calls k A3 c3 l a b x W (cut_c hg (Kd.C_below h.G h.B)) hc hf).mono ?_
  rintro e w' ⟨v0, v1, rfl, h0, h1, hb⟩
  obtain ⟨A4, c4, rfl⟩ := Kd.R_slice h0
  obtain ⟨A5, c5, rfl⟩ := Kd.R_slice h1
  exact ⟨A4, c4, A5, c5, rfl, h.W1, below_step h.B hb, h.D, h.G, Kd.R_tight rfl (Kd.R_lower h0 (below_size h.B)), Kd.R_tight rfl (Kd.R_lower h1 (below_size h.B)), fun k hk => h0.1 k hk.symm⟩
theorem S2.orders {w w1 W : World} {A0 A3 : Option Addr} {c3 k : Nat} {l g : List S52} {a b l1 l2 : List Int} {x : Int} {u1 u2 : Value} (h : S2 w w1 W A0 l A3 g u1 u2 l1 l2) (hg : g.take l.length = l) (hc : l.length ≤ c3) (hf : races_Orders.f k l = some (a, b, x)) :
    Calls Try.prog 13 #[.slice A3 l.length c3] W fun e w' => ∃ A4 c4 A5 c5, e = .returned (.tuple #[.slice A4 a.length c4, .slice A5 b.length c5, .int .i64 x]) ∧ St w w1 w' A0 l A3 g false false false false u1 u2 (.slice A4 a.length c4) (.slice A5 b.length c5) l1 l2 a b := by
  refine (races_Orders.calls k A3 c3 l a b x W (cut_c hg (Kd.C_below h.G h.B)) hc hf).mono ?_
  rintro e w' ⟨v0, v1, rfl, h0, h1, hb⟩
  obtain ⟨A4, c4, rfl⟩ := Kd.R_slice h0
  obtain ⟨A5, c5, rfl⟩ := Kd.R_slice h1
  have far : ∀ {u : Value} {l' : List Int} {v : Value} {y : List Int} {ok : Nat → Prop}, RO w1.heap.size W u l' → Kd.R (Kd.int .i64) 3 w' W.heap.size ok v y → NE u v := by
    intro u l' v y ok hu hv k hk hv2
    have h3 := Kd.R_lt hu k hk.symm
    have h4 := Kd.R_base hv k hv2.symm
    omega
  exact ⟨A4, c4, A5, c5, rfl, h.W1, below_step h.B hb, h.D, h.G, Kd.R_below h.h1 hb, Kd.R_below h.h2 hb, Kd.R_tight rfl (Kd.R_lower h0 (below_size h.B)), Kd.R_tight rfl (Kd.R_lower h1 (below_size h.B)),
    h.n12, far h.h1 h0, far h.h1 h1, far h.h2 h0, far h.h2 h1, fun k hk => h0.1 k hk.symm⟩
end Go.Proofs.Ytkecgjmbamaejaa.P
namespace Go.Proofs.Ytkecgjmbamaejaa.P
open Go.RowKit Go.Proofs.YtkecgjmbamaejaaW.PrintWords Go.Proofs.YtkecgjmbamaejaaW.PrintLast Go.Proofs.YtkecgjmbamaejaaW.PrintMore
set_option linter.unusedVariables false
set_option linter.unusedSimpArgs false

/-- What it comes to: true, as long as the deeds are. -/
def plunderlaw19_RacesOrders.f (k : Nat) (l0 : List S52) : Option Bool := if l0.length ≤ 1048576 then some true else none
set_option maxHeartbeats 8000000 in
set_option maxRecDepth 100000 in
theorem plunderlaw19_RacesOrders.calls (k : Nat) (A0 : Option Addr) (c0 : Nat) (l0 : List S52) (r : Bool) (w : World) (hr0 : Kd.C k52 w A0 l0.length l0) (hc0 : l0.length ≤ c0) (h : plunderlaw19_RacesOrders.f k l0 = some r) :
    Calls Try.prog 3 #[.slice A0 l0.length c0] w fun e w' => e = .returned (.bool r) ∧ Below w.heap.size w w' := by
  unfold plunderlaw19_RacesOrders.f at h
  by_cases hl : l0.length ≤ 1048576
  case neg => rw [if_neg hl] at h; cases h
  rw [if_pos hl] at h
  obtain rfl := Option.some.inj h
  clear h
  have hl2 : l0.length < 1099511627776 := by omega
  obtain ⟨g, hg⟩ : ∃ g : List S52, g = l0 ++ odd := ⟨_, rfl⟩
  have HGT : Aside0 (g.take l0.length = l0) := ⟨by rw [hg, List.take_left' rfl]⟩
  have HLE : Aside0 (l0.length ≤ g.length) := ⟨by rw [hg, List.length_append]; omega⟩
  obtain ⟨k1, F1⟩ := Ev.rounds (spare_ev l0 hl2)
  obtain ⟨a, b, x, e2, e3, ha, hb⟩ := orders_ev l0 hl2
  obtain ⟨k2, F2⟩ := Ev.rounds e2
  obtain ⟨k3, F3⟩ := Ev.rounds e3
  obtain ⟨i1, K1⟩ := Ev.rounds (fill_ev (-1) a ha)
  obtain ⟨i2, K2⟩ := Ev.rounds (fill_ev (-2) b hb)
  obtain ⟨i3, K3⟩ := Ev.rounds (fill_ev (-3) a ha)
  obtain ⟨i4, K4⟩ := Ev.rounds (fill_ev (-4) b hb)
  obtain ⟨j1, J1⟩ := Ev.rounds (full_ev (-1) a.length ha)
  obtain ⟨j2, J2⟩ := Ev.rounds (full_ev (-2) b.length hb)
  obtain ⟨j3, J3⟩ := Ev.rounds (full_ev (-3) a.length ha)
  obtain ⟨j4, J4⟩ := Ev.rounds (full_ev (-4) b.length hb)
  obtain ⟨k6, F6⟩ := Ev.rounds (untouched_ev l0 hl2)
  obtain ⟨k7, F7⟩ := Ev.rounds (ordersPlaced_ev l0 hl2)
  rw [← hg] at F1 F6
  have L1 : Aside0 ((List.replicate a.length (-1 : Int)).length ≤ 1048576) := ⟨by rw [List.length_replicate]; omega⟩
  have L2 : Aside0 ((List.replicate b.length (-2 : Int)).length ≤ 1048576) := ⟨by rw [List.length_replicate]; omega⟩
  have L3 : Aside0 ((List.replicate a.length (-3 : Int)).length ≤ 1048576) := ⟨by rw [List.length_replicate]; omega⟩
  have L4 : Aside0 ((List.replicate b.length (-4 : Int)).length ≤ 1048576) := ⟨by rw [List.length_replicate]; omega⟩
  have F1_ := Aside0.mk F1
  clear F1
  have F1 := F1_
  clear F1_
  have F2_ := Aside0.mk F2
  clear F2
  have F2 := F2_
  clear F2_
  have F3_ := Aside0.mk F3
  clear F3
  have F3 := F3_
  clear F3_
  have K1_ := Aside0.mk K1
  clear K1
  have K1 := K1_
  clear K1_
  have K2_ := Aside0.mk K2
  clear K2
  have K2 := K2_
  clear K2_
  have K3_ := Aside0.mk K3
  clear K3
  have K3 := K3_
  clear K3_
  have K4_ := Aside0.mk K4
  clear K4
  have K4 := K4_
  clear K4_
  have J1_ := Aside0.mk J1
  clear J1
  have J1 := J1_
  clear J1_
  have J2_ := Aside0.mk J2
  clear J2
  have J2 := J2_
  clear J2_
  have J3_ := Aside0.mk J3
  clear J3
  have J3 := J3_
  clear J3_
  have J4_ := Aside0.mk J4
  clear J4
  have J4 := J4_
  clear J4_
  have F6_ := Aside0.mk F6
  clear F6
  have F6 := F6_
  clear F6_
  have F7_ := Aside0.mk F7
  clear F7
  have F7 := F7_
  clear F7_
  have HD := Aside0.mk hr0
  have HC := Aside0.mk hc0
  have HB := Aside0.mk (Below.refl w.heap.size w)
  clear hr0 hc0 e2 e3 ha hb hg hl hl2
  go_enter Try.func3, Try.ntmps3
  go_wp2_with (first | (go_at_call 12; (first | (with_reducible refine (spare_s1 HB.out HD.out HC.out F1.out).mono ?_) | (with_reducible refine (spare_s1 (below_drew HB.out) HD.out HC.out F1.out).mono ?_)); rintro e_ wc_ ⟨A3, c3, rfl, hc3, hs⟩; have HS1 := Aside0.mk hs; have HC3 := Aside0.mk hc3; have HC3' := Aside0.mk (Nat.le_trans HLE.out hc3); have hcut := cut_g (A3 := A3) HGT.out hc3; clear HB hs hc3) | (go_at_call 13; (first | (with_reducible refine ((HS1.out).orders HGT.out HC3'.out F2.out).mono ?_) | (with_reducible refine ((HS1.out.drew).orders HGT.out HC3'.out F2.out).mono ?_) | (with_reducible refine (((HS1.out.drewN _)).orders HGT.out HC3'.out F2.out).mono ?_)); rintro e_ wc_ ⟨A4, c4, A5, c5, rfl, hs⟩; have HSn := Aside0.mk hs; clear HS1 hs; have HS2 := HSn; clear HSn) | (go_at_call 13; (first | (with_reducible refine ((HS2.out).orders HGT.out HC3'.out F2.out).mono ?_) | (with_reducible refine ((HS2.out.drew).orders HGT.out HC3'.out F2.out).mono ?_) | (with_reducible refine (((HS2.out.drewN _)).orders HGT.out HC3'.out F2.out).mono ?_)); rintro e_ wc_ ⟨A6, c6, A7, c7, rfl, hs⟩; have HSn := Aside0.mk hs; clear HS2 hs; have HS := HSn; clear HSn; have E4 := Aside0.mk (RO.form HS.out.h1); have E5 := Aside0.mk (RO.form HS.out.h2); have E6 := Aside0.mk (RO.form HS.out.h3); have E7 := Aside0.mk (RO.form HS.out.h4); have M4 := Aside0.mk (Kd.R_reads' HS.out.h1).2.1; have M5 := Aside0.mk (Kd.R_reads' HS.out.h2).2.1; have M6 := Aside0.mk (Kd.R_reads' HS.out.h3).2.1; have M7 := Aside0.mk (Kd.R_reads' HS.out.h4).2.1) | (go_at_call 14; (first | (with_reducible refine ((HS.out).ref HC.out F3.out).mono ?_) | (with_reducible refine ((HS.out.drew).ref HC.out F3.out).mono ?_) | (with_reducible refine (((HS.out.drewN _)).ref HC.out F3.out).mono ?_)); rintro e_ wc_ ⟨rfl, hs⟩; have HSn := Aside0.mk hs; clear HS hs; have HS := HSn; clear HSn) | (go_at_call 14; (first | (with_reducible refine ((HS.out).ref2 HC.out F3.out).mono ?_) | (with_reducible refine ((HS.out.drew).ref2 HC.out F3.out).mono ?_) | (with_reducible refine (((HS.out.drewN _)).ref2 HC.out F3.out).mono ?_)); rintro e_ wc_ ⟨rfl, hs⟩; have HSn := Aside0.mk hs; clear HS hs; have HS := HSn; clear HSn) | (go_at_call 15; (first | (with_reducible refine ((HS.out).fill1 K1.out).mono ?_) | (with_reducible refine ((HS.out.drew).fill1 K1.out).mono ?_) | (with_reducible refine (((HS.out.drewN _)).fill1 K1.out).mono ?_)); rintro e_ wc_ ⟨rfl, hs⟩; have HSn := Aside0.mk hs; clear HS hs; have HS := HSn; clear HSn) | (go_at_call 15; (first | (with_reducible refine ((HS.out).fill2 K2.out).mono ?_) | (with_reducible refine ((HS.out.drew).fill2 K2.out).mono ?_) | (with_reducible refine (((HS.out.drewN _)).fill2 K2.out).mono ?_)); rintro e_ wc_ ⟨rfl, hs⟩; have HSn := Aside0.mk hs; clear HS hs; have HS := HSn; clear HSn) | (go_at_call 15; (first | (with_reducible refine ((HS.out).fill3 K3.out).mono ?_) | (with_reducible refine ((HS.out.drew).fill3 K3.out).mono ?_) | (with_reducible refine (((HS.out.drewN _)).fill3 K3.out).mono ?_)); rintro e_ wc_ ⟨rfl, hs⟩; have HSn := Aside0.mk hs; clear HS hs; have HS := HSn; clear HSn) | (go_at_call 15; (first | (with_reducible refine ((HS.out).fill4 K4.out).mono ?_) | (with_reducible refine ((HS.out.drew).fill4 K4.out).mono ?_) | (with_reducible refine (((HS.out.drewN _)).fill4 K4.out).mono ?_)); rintro e_ wc_ ⟨rfl, hs⟩; have HSn := Aside0.mk hs; clear HS hs; have HS := HSn; clear HSn) | (go_at_call 16; (first | (with_reducible refine ((HS.out).grown1 L1.out).mono ?_) | (with_reducible refine ((HS.out.drew).grown1 L1.out).mono ?_) | (with_reducible refine (((HS.out.drewN _)).grown1 L1.out).mono ?_)); rintro e_ wc_ ⟨rfl, hs⟩; have HSn := Aside0.mk hs; clear HS hs; have HS := HSn; clear HSn) | (go_at_call 16; (first | (with_reducible refine ((HS.out).grown2 L2.out).mono ?_) | (with_reducible refine ((HS.out.drew).grown2 L2.out).mono ?_) | (with_reducible refine (((HS.out.drewN _)).grown2 L2.out).mono ?_)); rintro e_ wc_ ⟨rfl, hs⟩; have HSn := Aside0.mk hs; clear HS hs; have HS := HSn; clear HSn) | (go_at_call 16; (first | (with_reducible refine ((HS.out).grown3 L3.out).mono ?_) | (with_reducible refine ((HS.out.drew).grown3 L3.out).mono ?_) | (with_reducible refine (((HS.out.drewN _)).grown3 L3.out).mono ?_)); rintro e_ wc_ ⟨rfl, hs⟩; have HSn := Aside0.mk hs; clear HS hs; have HS := HSn; clear HSn) | (go_at_call 16; (first | (with_reducible refine ((HS.out).grown4 L4.out).mono ?_) | (with_reducible refine ((HS.out.drew).grown4 L4.out).mono ?_) | (with_reducible refine (((HS.out.drewN _)).grown4 L4.out).mono ?_)); rintro e_ wc_ ⟨rfl, hs⟩; have HSn := Aside0.mk hs; clear HS hs; have HS := HSn; clear HSn) | (go_at_call 17; (first | (with_reducible refine ((HS.out).full1 E4.out M4.out J1.out).mono ?_) | (with_reducible refine ((HS.out.drew).full1 E4.out M4.out J1.out).mono ?_) | (with_reducible refine (((HS.out.drewN _)).full1 E4.out M4.out J1.out).mono ?_)); rintro e_ wc_ ⟨rfl, hs⟩; have HSn := Aside0.mk hs; clear HS hs; have HS := HSn; clear HSn) | (go_at_call 17; (first | (with_reducible refine ((HS.out).full2 E5.out M5.out J2.out).mono ?_) | (with_reducible refine ((HS.out.drew).full2 E5.out M5.out J2.out).mono ?_) | (with_reducible refine (((HS.out.drewN _)).full2 E5.out M5.out J2.out).mono ?_)); rintro e_ wc_ ⟨rfl, hs⟩; have HSn := Aside0.mk hs; clear HS hs; have HS := HSn; clear HSn) | (go_at_call 17; (first | (with_reducible refine ((HS.out).full3 E6.out M6.out J3.out).mono ?_) | (with_reducible refine ((HS.out.drew).full3 E6.out M6.out J3.out).mono ?_) | (with_reducible refine (((HS.out.drewN _)).full3 E6.out M6.out J3.out).mono ?_)); rintro e_ wc_ ⟨rfl, hs⟩; have HSn := Aside0.mk hs; clear HS hs; have HS := HSn; clear HSn) | (go_at_call 17; (first | (with_reducible refine ((HS.out).full4 E7.out M7.out J4.out).mono ?_) | (with_reducible refine ((HS.out.drew).full4 E7.out M7.out J4.out).mono ?_) | (with_reducible refine (((HS.out.drewN _)).full4 E7.out M7.out J4.out).mono ?_)); rintro e_ wc_ ⟨rfl, hs⟩; have HSn := Aside0.mk hs; clear HS hs; have HS := HSn; clear HSn) | (go_at_call 18; (first | (with_reducible refine ((HS.out).untouched HC.out HC3.out F6.out).mono ?_) | (with_reducible refine ((HS.out.drew).untouched HC.out HC3.out F6.out).mono ?_) | (with_reducible refine (((HS.out.drewN _)).untouched HC.out HC3.out F6.out).mono ?_)); rintro e_ wc_ ⟨rfl, hs⟩; have HSn := Aside0.mk hs; clear HS hs; have HS := HSn; clear HSn) | (go_at_call 19; (first | (with_reducible refine ((HS.out).placed HC.out F7.out).mono ?_) | (with_reducible refine ((HS.out.drew).placed HC.out F7.out).mono ?_) | (with_reducible refine (((HS.out.drewN _)).placed HC.out F7.out).mono ?_)); rintro e_ wc_ ⟨rfl, hs⟩; have HSn := Aside0.mk hs; clear HS hs; have HS := HSn; clear HSn))
  go_ret
  exact ⟨by first | rfl | (simp [errW_none, errW_some] <;> rfl) | (simp [*, errW_none, errW_some] <;> rfl), by repeat (first | (with_reducible first | exact HS.out.bw | apply below_alloc | apply pw_below_drewN | apply below_drew1) | exact HS.out.bw)⟩
end Go.Proofs.Ytkecgjmbamaejaa.P
