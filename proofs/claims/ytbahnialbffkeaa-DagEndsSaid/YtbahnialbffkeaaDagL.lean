/- Plain law, part L: the made dag ('fit'), and greedy schedules with a processor for each node, and with one. -/
import Derived.Test.YtbahnialbffkeaaDagK
import Derived.Test.YtbahnialbffkeaaPx18
namespace Go.Proofs.Ytbahnialbffkeaa.P
open Go.RowKit Go.Proofs.YtbahnialbffkeaaW.PrintWords Go.Proofs.YtbahnialbffkeaaW.PrintLast Go.Proofs.YtbahnialbffkeaaW.PrintMore
set_option linter.unusedVariables false
set_option linter.unusedSimpArgs false
def modI (x n : Int) : Int := if Int.tmod x n < 0 then Int.tmod x n + n else Int.tmod x n
theorem tmod_bd (x n : Int) (hn : 0 < n) : -n < Int.tmod x n ∧ Int.tmod x n < n := by
  rcases Int.le_total 0 x with h | h
  · rw [Int.tmod_eq_emod_of_nonneg h]
    have := Int.emod_nonneg x (show n ≠ 0 by omega)
    have := Int.emod_lt_of_pos x hn
    omega
  · have e : Int.tmod x n = - Int.tmod (-x) n := by rw [Int.neg_tmod]; omega
    rw [e, Int.tmod_eq_emod_of_nonneg (by omega : 0 ≤ -x)]
    have := Int.emod_nonneg (-x) (show n ≠ 0 by omega)
    have := Int.emod_lt_of_pos (-x) hn
    omega
theorem modI_bd (x n : Int) (hn : 0 < n) : 0 ≤ modI x n ∧ modI x n < n := by
  have := tmod_bd x n hn
  unfold modI
  split <;> omega
theorem modI_id (x n : Int) (h0 : 0 ≤ x) (h : x < n) : modI x n = x := by
  unfold modI
  rw [Int.tmod_eq_emod_of_nonneg h0, Int.emod_eq_of_lt h0 h, if_neg (by omega)]
theorem mod_f (x n : Int) (hn : 0 < n) (hb : n ≤ 4611686018427387904) : plunderlaw7_mod.f x n = some (modI x n) := by
  have := tmod_bd x n hn
  unfold plunderlaw7_mod.f modI
  rw [if_neg (by omega)]
  by_cases h : Int.tmod x n < 0
  · rw [if_pos h, if_pos h, w64 (by omega) (by omega)]
  · rw [if_neg h, if_neg h]
theorem fit_l0 (l : List S50) (N : Int) (h0 : 0 ≤ N) (hN : N ≤ 200) : ∀ (d i : Nat) (E : List S50), i + d = l.length → E.length ≤ i → i ≤ 2000 → (∀ e ∈ E, okE N e) →
    ∃ E' : List S50, E'.length ≤ 2000 ∧ (∀ e ∈ E', okE N e) ∧ Ev (fun k => plunderlaw7_fit.l0 k l (i : Int) N E) (N, E') := by
  intro d
  induction d with
  | zero =>
    intro i E hi hE h2 hok
    refine ⟨E, by omega, hok, ?_⟩
    refine Ev.step (f := fun k => plunderlaw7_fit.j1 k l (i : Int) false N E) (fun k => ?_) ?_
    · simp only [plunderlaw7_fit.l0]
      rw [if_neg (by omega)]
    · refine Ev.step (f := fun _ => some (N, E)) (fun k => ?_) (Ev.now _)
      simp only [plunderlaw7_fit.j1]
      rw [if_neg (by decide)]
  | succ d ih =>
    intro i E hi hE h2 hok
    have hlt : i < l.length := by omega
    by_cases hc : i < 2000 ∧ 0 < N
    · have hm0 := mod_f (l[i].f0) N hc.2 (by omega)
      have hm1 := mod_f (l[i].f1) N hc.2 (by omega)
      have hb0 := modI_bd (l[i].f0) N hc.2
      have hb1 := modI_bd (l[i].f1) N hc.2
      have first : ∀ r, Ev (fun k => plunderlaw7_fit.j1 k l (i : Int) true N E) r → Ev (fun k => plunderlaw7_fit.l0 k l (i : Int) N E) r := by
        intro r hr
        refine Ev.step (f := fun k => plunderlaw7_fit.j1 k l (i : Int) true N E) (fun k => ?_) hr
        simp only [plunderlaw7_fit.l0]
        rw [if_pos (by omega), if_pos (by omega), decide_eq_true (by omega)]
      by_cases c1 : modI (l[i].f0) N < modI (l[i].f1) N
      · obtain ⟨E', a, b, c⟩ := ih (i + 1) (E ++ [⟨modI (l[i].f0) N, modI (l[i].f1) N⟩]) (by omega) (by simp; omega) (by omega) (by
          intro e he
          rcases List.mem_append.mp he with h | h
          · exact hok e h
          · rw [List.mem_singleton.mp h]; exact ⟨hb0.1, c1, hb1.2⟩)
        refine ⟨E', a, b, first _ (Ev.step (f := fun k => plunderlaw7_fit.l0 k l ((i + 1 : Nat) : Int) N (E ++ [⟨modI (l[i].f0) N, modI (l[i].f1) N⟩])) (fun k => ?_) c)⟩
        simp only [plunderlaw7_fit.j1]
        rw [if_pos trivial, if_pos (by omega), if_pos (by omega), rd50 l i hlt, hm0, Option.bind_some, hm1, Option.bind_some, if_pos c1, if_pos (by omega), w64s (by omega)]
      · by_cases c2 : modI (l[i].f1) N < modI (l[i].f0) N
        · obtain ⟨E', a, b, c⟩ := ih (i + 1) (E ++ [⟨modI (l[i].f1) N, modI (l[i].f0) N⟩]) (by omega) (by simp; omega) (by omega) (by
            intro e he
            rcases List.mem_append.mp he with h | h
            · exact hok e h
            · rw [List.mem_singleton.mp h]; exact ⟨hb1.1, c2, hb0.2⟩)
          refine ⟨E', a, b, first _ (Ev.step (f := fun k => plunderlaw7_fit.l0 k l ((i + 1 : Nat) : Int) N (E ++ [⟨modI (l[i].f1) N, modI (l[i].f0) N⟩])) (fun k => ?_) c)⟩
          simp only [plunderlaw7_fit.j1]
          rw [if_pos trivial, if_pos (by omega), if_pos (by omega), rd50 l i hlt, hm0, Option.bind_some, hm1, Option.bind_some, if_neg c1, if_pos c2, if_pos (by omega), w64s (by omega)]
        · obtain ⟨E', a, b, c⟩ := ih (i + 1) E (by omega) (by omega) (by omega) hok
          refine ⟨E', a, b, first _ (Ev.step (f := fun k => plunderlaw7_fit.l0 k l ((i + 1 : Nat) : Int) N E) (fun k => ?_) c)⟩
          simp only [plunderlaw7_fit.j1]
          rw [if_pos trivial, if_pos (by omega), if_pos (by omega), rd50 l i hlt, hm0, Option.bind_some, hm1, Option.bind_some, if_neg c1, if_neg c2, w64s (by omega)]
    · refine ⟨E, by omega, hok, ?_⟩
      refine Ev.step (f := fun k => plunderlaw7_fit.j1 k l (i : Int) false N E) (fun k => ?_) ?_
      · simp only [plunderlaw7_fit.l0]
        rw [if_pos (by omega)]
        by_cases h3 : i < 2000
        · rw [if_pos (by omega), decide_eq_false (by omega)]
        · rw [if_neg (by omega)]
      · refine Ev.step (f := fun _ => some (N, E)) (fun k => ?_) (Ev.now _)
        simp only [plunderlaw7_fit.j1]
        rw [if_neg (by decide)]
theorem fit_ev (n : Int) (l : List S50) : ∃ (N : Nat) (E : List S50), (N : Int) = modI n 201 ∧ N ≤ 200 ∧ E.length ≤ 2000 ∧ (∀ e ∈ E, okE (N : Int) e) ∧ chk (N : Int) E = 0 ∧ Ev (fun k => plunderlaw7_fit.f k n l) ((N : Int), E) := by
  have hb := modI_bd n 201 (by omega)
  obtain ⟨E, a, b, c⟩ := fit_l0 l (modI n 201) hb.1 (by omega) l.length 0 [] (by omega) (by simp) (by omega) (by intro e he; cases he)
  have e : ((modI n 201).toNat : Int) = modI n 201 := by omega
  refine ⟨(modI n 201).toNat, E, e, by omega, a, by rw [e]; exact b, ?_, ?_⟩
  · rw [e]
    unfold chk
    rw [if_neg (by omega), if_neg (by omega)]
    unfold chkE
    rw [if_pos b]
  · rw [e]
    refine Ev.congr (f := fun k => plunderlaw7_fit.l0 k l ((0 : Nat) : Int) (modI n 201) []) (fun k => ?_) c
    unfold plunderlaw7_fit.f
    rw [mod_f n 201 (by omega) (by omega), Option.bind_some]
    rfl
/-! ### a list by what stands at each place -/
def tab (n : Nat) (f : Int → Int) : List Int := (List.range n).map (fun i : Nat => f (i : Int))
theorem tab_length (n : Nat) (f : Int → Int) : (tab n f).length = n := by simp [tab]
theorem rd_tab (n : Nat) (f : Int → Int) (k : Int) (h0 : 0 ≤ k) (h : k < (n : Int)) : rd (tab n f) k = f k := by
  unfold rd tab
  rw [List.getD_eq_getElem?_getD, List.getElem?_map, List.getElem?_range (by omega)]
  simp only [Option.map_some, Option.getD_some]
  rw [show ((k.toNat : Nat) : Int) = k from by omega]
theorem ext_rd {a b : List Int} (hl : a.length = b.length) (h : ∀ k : Int, 0 ≤ k → k < (a.length : Int) → rd a k = rd b k) : a = b := by
  apply List.ext_getElem hl
  intro i h1 h2
  have := h (i : Int) (by omega) (by omega)
  rw [rdi a i h1, rdi b i h2] at this
  exact this
theorem zeros_tab (n : Nat) (f : Int → Int) (h : ∀ k, 0 ≤ k → k < (n : Int) → f k = 0) : List.replicate n 0 = tab n f :=
  ext_rd (by simp [tab]) (fun k h0 h1 => by
    rw [rd_zeros, rd_tab n f k h0 (by simpa using h1), h k h0 (by simpa using h1)])
/-! ### a processor for each node -/
theorem gr_wide_go (n : Nat) (l : List S50) (hok : ∀ e ∈ l, okE (n : Int) e) (p : Int) (hp : (n : Int) ≤ p) : ∀ (d : Nat) (t : Int), 1 ≤ t → (n : Int) + 1 ≤ t + d →
    gr n l p d (tab n (fun k => if rd (ear (rowsOf n l) n) k < t then rd (ear (rowsOf n l) n) k else 0)) t = ear (rowsOf n l) n := by
  have hlow := low_rowsOf hok
  have hbd := ear_bd (rowsOf n l) hlow n
  have done : ∀ t : Int, (∀ k, 0 ≤ k → k < (n : Int) → rd (ear (rowsOf n l) n) k < t) → tab n (fun k => if rd (ear (rowsOf n l) n) k < t then rd (ear (rowsOf n l) n) k else 0) = ear (rowsOf n l) n := by
    intro t ht
    refine ext_rd (by rw [tab_length, ear_length]) (fun k h0 h1 => ?_)
    rw [tab_length] at h1
    rw [rd_tab n _ k h0 h1, if_pos (ht k h0 h1)]
  intro d
  induction d with
  | zero =>
    intro t ht htd
    rw [gr]
    refine done t (fun k h0 h1 => ?_)
    have := hbd k h0 h1
    omega
  | succ d ih =>
    intro t ht htd
    rw [gr]
    have hlen : (tab n (fun k => if rd (ear (rowsOf n l) n) k < t then rd (ear (rowsOf n l) n) k else 0)).length = n := tab_length _ _
    by_cases h0 : S0 n l (tab n (fun k => if rd (ear (rowsOf n l) n) k < t then rd (ear (rowsOf n l) n) k else 0)) = []
    · rw [if_pos h0]
      refine done t (fun k a b => ?_)
      by_cases hk : rd (ear (rowsOf n l) n) k < t
      · exact hk
      · exfalso
        have h1 := (S0_nil_iff n l hok _).mp h0
        have h2 : k ∈ U n (tab n (fun k => if rd (ear (rowsOf n l) n) k < t then rd (ear (rowsOf n l) n) k else 0)) := mem_U.mpr ⟨a, b, by rw [rd_tab n _ k a b, if_neg hk]⟩
        rw [List.length_eq_zero_iff.mp h1] at h2
        cases h2
    · rw [if_neg h0]
      have hstep : rnd n l p (tab n (fun k => if rd (ear (rowsOf n l) n) k < t then rd (ear (rowsOf n l) n) k else 0)) t = tab n (fun k => if rd (ear (rowsOf n l) n) k < t + 1 then rd (ear (rowsOf n l) n) k else 0) := by
        refine ext_rd (by rw [rnd_length, hlen, tab_length]) (fun k a b => ?_)
        rw [rnd_length, hlen] at b
        rw [rd_rnd hlen k a b, rd_tab n _ k a b]
        have hS := S0_length n l (tab n (fun k => if rd (ear (rowsOf n l) n) k < t then rd (ear (rowsOf n l) n) k else 0))
        rw [List.take_of_length_le (by omega), rd_tab n _ k a b]
        have hk : ((k.toNat : Nat) : Int) = k := by omega
        have hat : rd (ear (rowsOf n l) n) k = 1 + mxL (ear (rowsOf n l) k.toNat) ((rowsOf n l).getD k.toNat []) := by
          have := ear_at (rowsOf n l) (i := k.toNat) (n := n) (by omega)
          rwa [hk] at this
        rw [rowsOf_getD _ _ _ (by omega)] at hat
        have hpre : ∀ q ∈ preds l k.toNat, 0 ≤ q ∧ q < k := fun q hq => by
          obtain ⟨e, he, h1, h2⟩ := preds_mem hq
          obtain ⟨a1, a2, a3⟩ := hok e he
          omega
        have hsame : ∀ q ∈ preds l k.toNat, rd (ear (rowsOf n l) k.toNat) q = rd (ear (rowsOf n l) n) q := fun q hq => by
          have := hpre q hq
          exact (ear_stays (rowsOf n l) (i := k.toNat) (j := n) (by omega) this.1 (by omega)).symm
        have hmem : k ∈ S0 n l (tab n (fun k => if rd (ear (rowsOf n l) n) k < t then rd (ear (rowsOf n l) n) k else 0)) ↔ rd (ear (rowsOf n l) n) k = t := by
          rw [mem_S0, rd_tab n _ k a b]
          have hc := cnt_zero l (tab n (fun k => if rd (ear (rowsOf n l) n) k < t then rd (ear (rowsOf n l) n) k else 0)) k.toNat
          rw [hk] at hc
          rw [hc]
          constructor
          · rintro ⟨-, -, h3, h4⟩
            have h5 : ¬ rd (ear (rowsOf n l) n) k < t := by
              intro h6
              rw [if_pos h6] at h3
              have := (hbd k a b).1
              omega
            have h6 : mxL (ear (rowsOf n l) k.toNat) (preds l k.toNat) ≤ t - 1 := by
              refine (mxL_bd _ _ (t - 1) (by omega) (fun q hq => ?_)).2
              have h7 := h4 q hq
              have h8 := hpre q hq
              rw [rd_tab n _ q h8.1 (by omega)] at h7
              rw [hsame q hq]
              by_cases h9 : rd (ear (rowsOf n l) n) q < t
              · omega
              · rw [if_neg h9] at h7; exact absurd rfl h7
            omega
          · intro h3
            refine ⟨a, b, by rw [if_neg (by omega)], fun q hq => ?_⟩
            have h8 := hpre q hq
            have h9 := mxL_ge (ear (rowsOf n l) k.toNat) (preds l k.toNat) hq
            rw [hsame q hq] at h9
            rw [rd_tab n _ q h8.1 (by omega), if_pos (by omega)]
            have := (hbd q h8.1 (by omega)).1
            omega
        by_cases hm : rd (ear (rowsOf n l) n) k = t
        · rw [if_pos (hmem.mpr hm), if_pos (by omega), hm]
        · rw [if_neg (fun h => hm (hmem.mp h))]
          by_cases h9 : rd (ear (rowsOf n l) n) k < t
          · rw [if_pos h9, if_pos (by omega)]
          · rw [if_neg h9, if_neg (by omega)]
      rw [hstep]
      exact ih (t + 1) (by omega) (by omega)
theorem gr_wide (n : Nat) (l : List S50) (hok : ∀ e ∈ l, okE (n : Int) e) (p : Int) (hp : (n : Int) ≤ p) : gr n l p n (List.replicate n 0) 1 = ear (rowsOf n l) n := by
  rw [zeros_tab n (fun k => if rd (ear (rowsOf n l) n) k < 1 then rd (ear (rowsOf n l) n) k else 0) (fun k a b => by
    have := (ear_bd (rowsOf n l) (low_rowsOf hok) n k a b).1
    rw [if_neg (by omega)])]
  exact gr_wide_go n l hok p hp n 1 (by omega) (by omega)
/-! ### one processor -/
theorem sorted_head {l : List Int} (h : l.Pairwise (· < ·)) {x : Int} (hx : x ∈ l) (hmin : ∀ y ∈ l, x ≤ y) : l.take 1 = [x] := by
  cases l with
  | nil => cases hx
  | cons a l =>
    have h1 := hmin a List.mem_cons_self
    rcases List.mem_cons.mp hx with h2 | h2
    · rw [h2]; rfl
    · have h3 := (List.pairwise_cons.mp h).1 x h2
      omega
theorem gr_one_go (n : Nat) (l : List S50) (hok : ∀ e ∈ l, okE (n : Int) e) : ∀ (d : Nat) (t : Int), 1 ≤ t → (n : Int) + 1 = t + d →
    gr n l 1 d (tab n (fun k => if k + 1 < t then k + 1 else 0)) t = tab n (fun k => k + 1) := by
  intro d
  induction d with
  | zero =>
    intro t ht htd
    rw [gr]
    refine ext_rd (by rw [tab_length, tab_length]) (fun k a b => ?_)
    rw [tab_length] at b
    rw [rd_tab n _ k a b, rd_tab n _ k a b, if_pos (by omega)]
  | succ d ih =>
    intro t ht htd
    have hlen : (tab n (fun k => if k + 1 < t then k + 1 else 0)).length = n := tab_length _ _
    have hmem : t - 1 ∈ S0 n l (tab n (fun k => if k + 1 < t then k + 1 else 0)) := by
      rw [mem_S0]
      refine ⟨by omega, by omega, by rw [rd_tab n _ (t - 1) (by omega) (by omega), if_neg (by omega)], ?_⟩
      have hc := cnt_zero l (tab n (fun k => if k + 1 < t then k + 1 else 0)) (t - 1).toNat
      rw [show (((t - 1).toNat : Nat) : Int) = t - 1 from by omega] at hc
      rw [hc]
      intro q hq
      obtain ⟨e, he, h1, h2⟩ := preds_mem hq
      obtain ⟨a1, a2, a3⟩ := hok e he
      rw [rd_tab n _ q (by omega) (by omega), if_pos (by omega)]
      omega
    have hhead : (S0 n l (tab n (fun k => if k + 1 < t then k + 1 else 0))).take 1 = [t - 1] := by
      refine sorted_head (S0_lt n l _) hmem (fun y hy => ?_)
      have h1 := mem_S0.mp hy
      have h2 := h1.2.2.1
      rw [rd_tab n _ y h1.1 h1.2.1] at h2
      by_cases h3 : y + 1 < t
      · rw [if_pos h3] at h2; omega
      · omega
    rw [gr, if_neg (List.ne_nil_of_mem hmem)]
    have hstep : rnd n l 1 (tab n (fun k => if k + 1 < t then k + 1 else 0)) t = tab n (fun k => if k + 1 < t + 1 then k + 1 else 0) := by
      refine ext_rd (by rw [rnd_length, hlen, tab_length]) (fun k a b => ?_)
      rw [rnd_length, hlen] at b
      rw [rd_rnd hlen k a b, rd_tab n _ k a b, show (1 : Int).toNat = 1 from rfl, hhead, rd_tab n _ k a b]
      by_cases h1 : k = t - 1
      · rw [if_pos (by rw [h1]; exact List.mem_singleton.mpr rfl), if_pos (by omega)]
        omega
      · rw [if_neg (fun h => h1 (List.mem_singleton.mp h))]
        by_cases h2 : k + 1 < t
        · rw [if_pos h2, if_pos (by omega)]
        · rw [if_neg h2, if_neg (by omega)]
    rw [hstep]
    exact ih (t + 1) (by omega) (by omega)
theorem gr_one (n : Nat) (l : List S50) (hok : ∀ e ∈ l, okE (n : Int) e) : gr n l 1 n (List.replicate n 0) 1 = tab n (fun k => k + 1) := by
  rw [zeros_tab n (fun k => if k + 1 < 1 then k + 1 else 0) (fun k a b => by rw [if_neg (by omega)])]
  exact gr_one_go n l hok n 1 (by omega) (by omega)
end Go.Proofs.Ytbahnialbffkeaa.P
