/- Plain law, part W: what 'shaped' and 'spawns' make of the nodes of a run. -/
import Derived.Test.YtcioegimmjppcaaDoorZSerH
import Derived.Test.YtcioegimmjppcaaDoorZSerL
import Derived.Test.YtcioegimmjppcaaDoorZPxSd
import Derived.Test.YtcioegimmjppcaaDoorZPx8
import Derived.IntWalk
namespace Go.Proofs.YtcioegimmjppcaaDoor.P
open Go.RowKit Go.Proofs.YtcioegimmjppcaaDoorW.PrintWords Go.Proofs.YtcioegimmjppcaaDoorW.PrintLast Go.Proofs.YtcioegimmjppcaaDoorW.PrintMore
set_option linter.unusedVariables false

/-- what is known of the nodes of a run that ends -/
theorem whole_tree (pd : Int → Int → Int) (ap : Int → Int → Int → Int) {P : List Fn} (hv : Valid P) (args : List Int) (fuel : Nat) (rs : RS) (v s : Int) (h : whole pd ap P args fuel = .done rs v s) :
    (∃ d, Shp pd P (cores rs.nodes) d ∧ rs.deepest = d.foldl max 0) ∧ sumW rs.nodes = (fuel : Int) - rs.left ∧ (∃ n0, rs.nodes[0]? = some n0 ∧ n0.v = v) ∧ (∀ x ∈ rs.nodes, 1 ≤ x.work) ∧ (rs.nodes.length : Int) = rs.tasks := by
  unfold whole at h
  have ha := At.root hv args
  obtain ⟨n0, hn0, hc0, hw0⟩ : ∃ n0, (enter P ⟨fuel, 0, 0, []⟩ (root args) (-1) 0).nodes = [n0] ∧ core n0 = ⟨-1, 0, 0, 1⟩ ∧ n0.work = 0 := ⟨_, rfl, rfl, rfl⟩
  have hin : InT pd P (enter P ⟨fuel, 0, 0, []⟩ (root args) (-1) 0) (root args) 0 [1] := by
    have e : cores [n0] = [⟨-1, 0, 0, 1⟩] := by show [core n0] = _; rw [hc0]
    refine ⟨by rw [hn0, e]; exact .root, ⟨⟨-1, 0, 0, 1⟩, by rw [hn0, e]; rfl, rfl, rfl⟩, rfl, by rw [hn0]; exact .refl _, ?_⟩
    rw [hn0, e, kidsAt_one, if_neg (by decide)]
    rfl
  obtain ⟨m, e, a1, a2, a3, a4, a5⟩ := loop_tree pd ap hv _ _ _ _ _ _ _ _ h ha _ hin
  have ht0 : (root args).work = 0 := rfl
  obtain ⟨b1, ⟨n1, b2, b3, b4⟩, b5, b6, b7⟩ := loop_works pd ap P _ _ _ _ _ _ _ _ h (by omega) n0 (by rw [hn0]; rfl) hw0
  have hl := loop_len pd ap P _ _ _ _ _ _ _ _ h
  refine ⟨⟨[1] ++ e, a1, ?_⟩, ?_, ⟨n1, b2, b3⟩, fun x hx => ?_, ?_⟩
  · rw [a5, List.foldl_append]
    rfl
  · rw [b1, hn0, ht0]
    have : sumW [n0] = n0.work + 0 := rfl
    have hle : (enter P ⟨fuel, 0, 0, []⟩ (root args) (-1) 0).left = fuel := rfl
    rw [hle]
    omega
  · obtain ⟨j, hj, rfl⟩ := List.getElem_of_mem hx
    by_cases h0 : j = 0
    · subst h0
      have : rs.nodes[0] = n1 := by
        have := List.getElem?_eq_getElem hj
        rw [b2] at this
        injection this with this
        exact this.symm
      rw [this]
      exact b4
    · refine b6 j _ ?_ (List.getElem?_eq_getElem hj)
      rw [hn0]
      simp
      omega
  · have h1 : (enter P ⟨fuel, 0, 0, []⟩ (root args) (-1) 0).tasks = 1 := rfl
    rw [hn0, h1] at hl
    simp at hl
    omega

theorem rd49_map (l : List Nd) (j : Nat) (x : Nd) (h : l[j]? = some x) : rd_T49 (l.map ndS) (j : Int) = ndS x := by
  unfold rd_T49
  rw [Int.toNat_natCast, List.getD_eq_getElem?_getD, List.getElem?_map, h]
  rfl

theorem cores_at {l : List Nd} {j : Nat} {c : Core} (h : (cores l)[j]? = some c) : ∃ x, l[j]? = some x ∧ core x = c := by
  unfold cores at h
  rw [List.getElem?_map] at h
  exact Option.map_eq_some_iff.1 h

/-- the inner loop goes up -/
theorem shaped_up {l : List Nd} {k p : Nat} {c : List Core} (h : Up c k p) : c <+: cores l → k < c.length → ∀ (x3 x4 : List Int) (x5 y1 y2 y3 y4 y5 y6 : Int) (r : List Int),
    (∃ K, plunderlaw6_shaped.l1 K (l.map ndS) x3 x4 x5 (p : Int) (p : Int) y1 y2 y3 y4 y5 y6 = some r) → ∃ K, plunderlaw6_shaped.l1 K (l.map ndS) x3 x4 x5 (k : Int) (p : Int) y1 y2 y3 y4 y5 y6 = some r := by
  induction h with
  | refl k => intro _ _ x3 x4 x5 y1 y2 y3 y4 y5 y6 r h; exact h
  | @step k p q c0 h1 h2 h3 hup ih =>
    intro hpre hk x3 x4 x5 y1 y2 y3 y4 y5 y6 r h
    obtain ⟨K, hK⟩ := ih hpre (by omega) x3 x4 x5 y1 y2 y3 y4 y5 y6 r h
    have hle := hup.le
    have hlen : c.length ≤ l.length := by
      have := hpre.length_le
      rw [cores_len] at this
      exact this
    have h1' : (cores l)[k]? = some c0 := by
      obtain ⟨m, hm⟩ := hpre
      rw [← hm, List.getElem?_append_left hk]
      exact h1
    obtain ⟨x, hx, hcx⟩ := cores_at h1'
    refine ⟨K + 1, ?_⟩
    simp only [plunderlaw6_shaped.l1]
    rw [if_pos (by omega), if_pos (by omega), if_pos (by omega), if_pos (by rw [List.length_map]; omega), rd49_map l k x hx]
    have e : (ndS x).f0 = (q : Int) := by
      rw [← h2, ← hcx]
      rfl
    rw [e]
    exact hK

def kidsL (c : List Core) (n i : Nat) : List Int := (List.range n).map (fun j => (kidsAt (c.take i) j : Int))
def depL (d : List Int) (n i : Nat) : List Int := d.take i ++ List.replicate (n - i) 0

theorem kidsL_at (c : List Core) (n i j : Nat) (h : j < n) : (kidsL c n i)[j]? = some (kidsAt (c.take i) j : Int) := by
  unfold kidsL
  rw [List.getElem?_map, List.getElem?_range h]
  rfl
theorem kidsL_len (c : List Core) (n i : Nat) : (kidsL c n i).length = n := by simp [kidsL]
theorem kidsL_rd (c : List Core) (n i j : Nat) (h : j < n) : rd (kidsL c n i) (j : Int) = (kidsAt (c.take i) j : Int) := by
  unfold rd
  rw [Int.toNat_natCast, List.getD_eq_getElem?_getD, kidsL_at c n i j h]
  rfl
theorem kidsL_set (c : List Core) (n i p : Nat) (x : Core) (hx : c[i]? = some x) (hp : x.parent = (p : Int)) (hpn : p < n) :
    (kidsL c n i).set p ((kidsAt (c.take i) p : Int) + 1) = kidsL c n (i + 1) := by
  apply List.ext_getElem?
  intro j
  rw [List.getElem?_set]
  have e : c.take (i + 1) = c.take i ++ [x] := by
    rw [List.take_add_one, hx]
    rfl
  by_cases h : p = j
  · subst h
    rw [if_pos rfl, if_pos (by rw [kidsL_len]; exact hpn), kidsL_at _ _ _ _ hpn, e, kidsAt_app, kidsAt_one, if_pos hp]
    rfl
  · rw [if_neg h]
    by_cases hj : j < n
    · rw [kidsL_at _ _ _ _ hj, kidsL_at _ _ _ _ hj, e, kidsAt_app, kidsAt_one, if_neg (by omega)]
      rfl
    · rw [List.getElem?_eq_none (by rw [kidsL_len]; omega), List.getElem?_eq_none (by rw [kidsL_len]; omega)]

theorem depL_len (d : List Int) (n i : Nat) (hd : d.length = n) (hi : i ≤ n) : (depL d n i).length = n := by
  simp [depL]
  omega
theorem depL_at (d : List Int) (n i j : Nat) (hd : d.length = n) (hi : i ≤ n) (hj : j < i) : (depL d n i)[j]? = d[j]? := by
  unfold depL
  rw [List.getElem?_append_left (by rw [List.length_take]; omega), List.getElem?_take, if_pos hj]
theorem depL_set (d : List Int) (n i : Nat) (e : Int) (hd : d.length = n) (hi : i < n) (he : d[i]? = some e) : (depL d n i).set i e = depL d n (i + 1) := by
  unfold depL
  have h1 : (d.take i).length = i := by rw [List.length_take]; omega
  rw [List.set_append_right _ _ (by omega), h1, Nat.sub_self, show n - i = (n - (i + 1)) + 1 by omega, List.replicate_succ, List.set_cons_zero, List.take_add_one, he, List.append_assoc]
  rfl

/-- what is known of each node behind the first -/
theorem Shp.at {pd : Int → Int → Int} {P : List Fn} {l : List Core} {d : List Int} (h : Shp pd P l d) : ∀ i, 1 ≤ i → i < l.length → ∃ (p : Nat) (c q : Core) (e : Int), l[i]? = some c ∧ d[i]? = some (e + 1) ∧ p < i ∧ l[p]? = some q ∧ d[p]? = some e ∧
    Up (l.take i) (i - 1) p ∧ c.parent = (p : Int) ∧ c.index = (kidsAt (l.take i) p : Int) ∧ c.ped = pd q.ped c.index ∧ inR q.func (P.length : Int) ∧ ∃ x ∈ (fnOf P q.func).code, x.kind = 5 ∧ x.b = c.func := by
  induction h with
  | root => intro i h1 h2; simp at h2; omega
  | @snoc l d p c q e hs hp hd hu hc hx hpd hr hsp ih =>
    intro i h1 h2
    have hlen := hs.len
    by_cases h3 : i < l.length
    · obtain ⟨p', c', q', e', a1, a2, a3, a4, a5, a6, a7⟩ := ih i h1 h3
      refine ⟨p', c', q', e', ?_, ?_, a3, ?_, ?_, ?_⟩
      · rw [List.getElem?_append_left h3]; exact a1
      · rw [List.getElem?_append_left (by omega)]; exact a2
      · rw [List.getElem?_append_left (by omega)]; exact a4
      · rw [List.getElem?_append_left (by omega)]; exact a5
      · rw [List.take_append_of_le_length (by omega)]
        exact ⟨a6, a7⟩
    · have h4 : i = l.length := by
        rw [List.length_append, List.length_singleton] at h2
        omega
      subst h4
      have hpl := (List.getElem?_eq_some_iff.1 hp).1
      refine ⟨p, c, q, e, ?_, ?_, hpl, ?_, ?_, ?_⟩
      · rw [List.getElem?_append_right (Nat.le_refl _), Nat.sub_self]; rfl
      · rw [List.getElem?_append_right (by omega), hlen, Nat.sub_self]; rfl
      · rw [List.getElem?_append_left hpl]; exact hp
      · rw [List.getElem?_append_left (by omega)]; exact hd
      · rw [List.take_append_of_le_length (Nat.le_refl _), List.take_length]
        exact ⟨hu, hc, hx, hpd, hr, hsp⟩
theorem Shp.first {pd : Int → Int → Int} {P : List Fn} {l : List Core} {d : List Int} (h : Shp pd P l d) : l[0]? = some ⟨-1, 0, 0, 1⟩ ∧ d[0]? = some 1 := by
  induction h with
  | root => exact ⟨rfl, rfl⟩
  | @snoc l d p c q e hs hp hd hu hc hx hpd hr hsp ih =>
    have h1 := hs.pos
    have h2 := hs.len
    rw [List.getElem?_append_left (by omega), List.getElem?_append_left (by omega)]
    exact ih

theorem wrap_nat1 (i : Nat) (h : i ≤ 4194304) : wrap64 ((i : Int) + 1) = ((i + 1 : Nat) : Int) := by
  rw [Go.IntWalk.wrap64_in _ (by omega)]
  omega
theorem wrap_int1 (z : Int) (h1 : 0 ≤ z) (h2 : z ≤ 4194304) : wrap64 (z + 1) = z + 1 := Go.IntWalk.wrap64_in _ (by omega)
theorem wrap_pred (i : Nat) (h1 : 1 ≤ i) (h : i ≤ 4194304) : wrap64 ((i : Int) - 1) = ((i - 1 : Nat) : Int) := by
  rw [Go.IntWalk.wrap64_in _ (by omega)]
  omega

theorem shaped_l0 {P : List Fn} {l : List Nd} {d : List Int} (h : Shp pdS P (cores l) d) (hn : l.length ≤ 4194304) : ∀ (m i : Nat), i + m = l.length → 1 ≤ i →
    ∃ K, plunderlaw6_shaped.l0 K (l.map ndS) (kidsL (cores l) l.length i) (depL d l.length i) (i : Int) = some d := by
  have hdl := h.len
  rw [cores_len] at hdl
  intro m
  induction m with
  | zero =>
    intro i hi h1
    obtain rfl : i = l.length := by omega
    refine ⟨1, ?_⟩
    simp only [plunderlaw6_shaped.l0]
    rw [if_neg (by rw [List.length_map]; omega)]
    unfold depL
    rw [Nat.sub_self, List.replicate_zero, List.append_nil, ← hdl, List.take_length]
  | succ m ih =>
    intro i hi h1
    obtain ⟨p, c, q, e, a1, a2, a3, a4, a5, a6, a7, a8, a9, a10, a11⟩ := h.at i h1 (by rw [cores_len]; omega)
    obtain ⟨x, hx, hcx⟩ := cores_at a1
    obtain ⟨y, hy, hcy⟩ := cores_at a4
    have hkn : (kidsAt ((cores l).take i) p : Int) ≤ i := by
      have h2 : kidsAt ((cores l).take i) p ≤ ((cores l).take i).length := List.countP_le_length
      rw [List.length_take] at h2
      omega
    have hdep := h.depth p e a5
    have x0 : (ndS x).f0 = (p : Int) := by rw [← a7, ← hcx]; rfl
    have x1 : (ndS x).f1 = (kidsAt ((cores l).take i) p : Int) := by rw [← a8, ← hcx]; rfl
    have x4 : (ndS x).f4 = pdS (ndS y).f4 (ndS x).f1 := by
      have e1 : (ndS x).f4 = c.ped := by rw [← hcx]; rfl
      have e2 : (ndS y).f4 = q.ped := by rw [← hcy]; rfl
      have e3 : (ndS x).f1 = c.index := by rw [← hcx]; rfl
      rw [e1, e2, e3]
      exact a9
    obtain ⟨K, hK⟩ := ih (i + 1) (by omega) (by omega)
    have hdi : (depL d l.length i)[p]? = some e := by rw [depL_at d _ i p hdl (by omega) a3]; exact a5
    have hrd : rd (depL d l.length i) (p : Int) = e := by
      unfold rd
      rw [Int.toNat_natCast, List.getD_eq_getElem?_getD, hdi]
      rfl
    have hi4 : i ≤ 4194304 := by omega
    have hk4 : (kidsAt ((cores l).take i) p : Int) ≤ 4194304 := by omega
    have hk0 : 0 ≤ (kidsAt ((cores l).take i) p : Int) := Int.natCast_nonneg _
    have he0 : 0 ≤ e := by omega
    have he4 : e ≤ 4194304 := by omega
    have hped : serial_Ped.f (ndS y).f4 (ndS x).f1 = some (ndS x).f4 := by
      rw [x4]
      rfl
    have hinner : ∃ K2, plunderlaw6_shaped.l1 K2 (l.map ndS) (kidsL (cores l) l.length i) (depL d l.length i) (i : Int) (p : Int) (p : Int) (ndS x).f1 (ndS x).f2 (ndS x).f3 (ndS x).f4 (ndS x).f5 (ndS x).f6 = some d := by
      refine ⟨K + 1, ?_⟩
      simp only [plunderlaw6_shaped.l1]
      rw [if_neg (by omega), if_neg (by omega), if_pos trivial, if_pos (by omega), if_pos (by rw [kidsL_len]; omega), kidsL_rd _ _ _ _ (by omega), if_pos x1, if_pos (by rw [List.length_map]; omega), rd49_map l p y hy, hped, Option.bind_some, if_pos rfl,
        if_pos (by rw [depL_len _ _ _ hdl (by omega)]; omega), if_pos (by omega), if_pos (by rw [depL_len _ _ _ hdl (by omega)]; omega), hrd, wrap_nat1 i hi4, wrap_int1 _ hk0 hk4, wrap_int1 e he0 he4, Int.toNat_natCast, Int.toNat_natCast, kidsL_set _ _ _ _ c a1 a7 (by omega), depL_set d _ i (e + 1) hdl (by omega) a2]
      exact hK
    obtain ⟨K2, hK2⟩ := shaped_up a6 (List.take_prefix _ _) (by rw [List.length_take, cores_len]; omega) _ _ _ _ _ _ _ _ _ _ hinner
    refine ⟨K2 + 1, ?_⟩
    simp only [plunderlaw6_shaped.l0]
    rw [if_pos (by rw [List.length_map]; omega), if_pos (by omega), if_neg (by omega), rd49_map l i x hx, x0, wrap_pred i h1 hi4]
    exact hK2

theorem shaped_true {P : List Fn} {l : List Nd} {d : List Int} (h : Shp pdS P (cores l) d) (hn : l.length ≤ 4194304) : ∃ K, plunderlaw6_shaped.f K (l.map ndS) = some d := by
  have hp := h.pos
  rw [cores_len] at hp
  have hdl := h.len
  rw [cores_len] at hdl
  obtain ⟨f1, f2⟩ := h.first
  obtain ⟨x, hx, hcx⟩ := cores_at f1
  obtain ⟨K, hK⟩ := shaped_l0 h hn (l.length - 1) 1 (by omega) (Nat.le_refl _)
  refine ⟨K + 1, ?_⟩
  unfold plunderlaw6_shaped.f
  rw [if_pos (by omega), if_pos (by rw [List.length_map]; omega)]
  have e0 : ((((l.map ndS).length : Int) : Int).toNat) = l.length := by rw [List.length_map]; omega
  rw [e0]
  have k0 : List.replicate l.length (0 : Int) = kidsL (cores l) l.length 0 := by
    apply List.ext_getElem?
    intro j
    by_cases hj : j < l.length
    · rw [kidsL_at _ _ _ _ hj, List.getElem?_replicate, if_pos hj]
      rfl
    · rw [List.getElem?_eq_none (by simp; omega), List.getElem?_eq_none (by rw [kidsL_len]; omega)]
  have k1 : kidsL (cores l) l.length 0 = kidsL (cores l) l.length 1 := by
    apply List.ext_getElem?
    intro j
    by_cases hj : j < l.length
    · rw [kidsL_at _ _ _ _ hj, kidsL_at _ _ _ _ hj]
      have e : (cores l).take 1 = [⟨-1, 0, 0, 1⟩] := by
        rw [List.take_add_one, f1]
        rfl
      rw [e, kidsAt_one, if_neg (by simp only; omega)]
      rfl
    · rw [List.getElem?_eq_none (by rw [kidsL_len]; omega), List.getElem?_eq_none (by rw [kidsL_len]; omega)]
  have d0 : List.replicate l.length (0 : Int) = depL d l.length 0 := by
    unfold depL
    rw [List.take_zero, List.nil_append, Nat.sub_zero]
  have r0 : rd_T49 (l.map ndS) 0 = ndS x := rd49_map l 0 x hx
  have g0 : (ndS x).f0 = -1 := by
    have : (ndS x).f0 = (core x).parent := rfl
    rw [this, hcx]
  have g1 : (ndS x).f1 = 0 := by
    have : (ndS x).f1 = (core x).index := rfl
    rw [this, hcx]
  have g2 : (ndS x).f2 = 0 := by
    have : (ndS x).f2 = (core x).func := rfl
    rw [this, hcx]
  have g4 : (ndS x).f4 = 1 := by
    have : (ndS x).f4 = (core x).ped := rfl
    rw [this, hcx]
  simp only [plunderlaw6_shaped.l0]
  rw [if_pos (by rw [List.length_map]; omega), if_pos (by omega), if_pos trivial, r0, if_pos g0, if_pos g1, if_pos g2, if_pos g4, if_pos (by rw [List.length_replicate]; omega)]
  have s0 : (List.replicate l.length (0 : Int)).set (0 : Int).toNat 1 = depL d l.length 1 := by
    rw [d0]
    exact depL_set d l.length 0 1 hdl (by omega) f2
  rw [s0, k0, k1, show wrap64 (0 + 1) = ((1 : Nat) : Int) by rw [Go.IntWalk.wrap64_in _ (by decide)]; rfl]
  exact hK

/-- 'spawns' finds what is there -/
theorem spawns_l0 (L : List S39) (f g : Int) (hf : inR f (L.length : Int)) (c : List S36) (hc : (rd_T39 L f).f3 = c) (hl : c.length ≤ 4194304) : ∀ (m i : Nat), i + m = c.length → (∃ j x, i ≤ j ∧ c[j]? = some x ∧ x.f0 = 5 ∧ x.f2 = g) →
    ∃ K, plunderlaw6_spawns.l0 K f g (i : Int) L = some true := by
  intro m
  induction m with
  | zero =>
    intro i hi ⟨j, x, h1, h2, _⟩
    have := (List.getElem?_eq_some_iff.1 h2).1
    omega
  | succ m ih =>
    intro i hi hex
    have hlt : i < c.length := by omega
    have hrd : rd_T36 c (i : Int) = c[i] := by
      unfold rd_T36
      rw [Int.toNat_natCast, List.getD_eq_getElem?_getD, List.getElem?_eq_getElem hlt]
      rfl
    have hi4 : i ≤ 4194304 := by omega
    have hf0 := hf.1
    have hf1 := hf.2
    by_cases hhere : c[i].f0 = 5 ∧ c[i].f2 = g
    · refine ⟨1, ?_⟩
      simp only [plunderlaw6_spawns.l0]
      rw [hc, if_pos hf0, if_pos hf1, if_pos (by omega), if_pos (by omega), hrd, if_pos hhere.1, if_pos hhere.2]
    · obtain ⟨K, hK⟩ := ih (i + 1) (by omega) (by
        obtain ⟨j, x, h1, h2, h3, h4⟩ := hex
        refine ⟨j, x, ?_, h2, h3, h4⟩
        by_cases hj : j = i
        · subst hj
          rw [List.getElem?_eq_getElem hlt] at h2
          injection h2 with h2
          subst h2
          exact absurd ⟨h3, h4⟩ hhere
        · omega)
      refine ⟨K + 1, ?_⟩
      simp only [plunderlaw6_spawns.l0]
      rw [hc, if_pos hf0, if_pos hf1, if_pos (by omega), if_pos (by omega), hrd, wrap_nat1 i hi4]
      by_cases h5 : c[i].f0 = 5
      · rw [if_pos h5, if_neg (fun h => hhere ⟨h5, h⟩)]
        exact hK
      · rw [if_neg h5]
        exact hK

theorem spawns_true (L : List S39) (hv : Valid (L.map fnS)) (f g : Int) (hf : inR f ((L.map fnS).length : Int)) (h : ∃ x ∈ (fnOf (L.map fnS) f).code, x.kind = 5 ∧ x.b = g) : ∃ K, plunderlaw6_spawns.f K L f g = some true := by
  have hf2 : inR f (L.length : Int) := by rw [List.length_map] at hf; exact hf
  have hlt : f.toNat < L.length := by have := hf2.1; have := hf2.2; omega
  have hfn : fnOf (L.map fnS) f = fnS (rd_T39 L f) := by
    unfold fnOf rd_T39
    rw [List.getD_eq_getElem?_getD, List.getD_eq_getElem?_getD, List.getElem?_map, List.getElem?_eq_getElem hlt]
    rfl
  have hsh := (hv.each _ (fnOf_mem hf)).shape
  unfold shapeOK at hsh
  have hcl : (fnOf (L.map fnS) f).code.length = (rd_T39 L f).f3.length := by
    rw [hfn]
    show ((rd_T39 L f).f3.map insS).length = _
    rw [List.length_map]
  obtain ⟨K, hK⟩ := spawns_l0 L f g hf2 _ rfl (by omega) (rd_T39 L f).f3.length 0 (by omega) (by
    obtain ⟨x, hx, h5, hb⟩ := h
    rw [hfn] at hx
    obtain ⟨y, hy, rfl⟩ := List.mem_map.1 (show x ∈ (rd_T39 L f).f3.map insS from hx)
    obtain ⟨j, hj, rfl⟩ := List.getElem_of_mem hy
    exact ⟨j, _, Nat.zero_le _, List.getElem?_eq_getElem hj, h5, hb⟩)
  refine ⟨K + 1, ?_⟩
  unfold plunderlaw6_spawns.f
  have hf0 := hf2.1
  have hf1 := hf2.2
  rw [if_neg (by omega), decide_eq_false (by omega)]
  simp only [plunderlaw6_spawns.j0, Bool.false_eq_true, ↓reduceIte]
  exact hK

end Go.Proofs.YtcioegimmjppcaaDoor.P
