/- races.late: its calls, in the print's form. -/
import Derived.Test.YtkecgjmbamaejaaPARB
import Derived.Deep.RegionHeld3
import Derived.Deep.RegionLaw
namespace Go.Proofs.Ytkecgjmbamaejaa.P
open Go.RowKit Go.Proofs.YtkecgjmbamaejaaW.PrintWords Go.Proofs.YtkecgjmbamaejaaW.PrintLast Go.Proofs.YtkecgjmbamaejaaW.PrintMore
set_option linter.unusedVariables false
set_option linter.unusedSimpArgs false
set_option maxHeartbeats 1000000
set_option maxRecDepth 100000

def WaitPost (w : World) (g5 g8 : Nat) (l : List Int) (e : Ending) (W' : World) : Prop := e = .returned (.tuple #[]) ∧ ∃ vl vk, LT w W' g5 g8 vl vk l []
theorem wait_calls {w W : World} {g5 g8 : Nat} {vl vk : Value} {l : List Int} {kss : List (List Int)} (H : LT w W g5 g8 vl vk l kss) (hb : l.length + kss.flatten.length ≤ 8388608) (hk : kss.length ≤ 8388608) :
    Calls Try.prog 54 #[.pointer (some ⟨g8, 0, none⟩), .pointer (some ⟨g5, 0, none⟩)] W (WaitPost w g5 g8 (l ++ kss.reverse.flatten)) := by
  have HT := Aside0.mk H
  have HB := Aside0.mk (And.intro hb hk)
  have hu46 := Try.underlying46
  have hu24 := Try.underlying24
  clear H hb hk
  obtain ⟨R, hR⟩ : ∃ R, l ++ kss.reverse.flatten = R := ⟨_, rfl⟩
  have HR := Aside0.mk hR
  rw [hR]
  clear hR
  go_enter Try.func54, Try.ntmps54
  go_wp2_with (first | fail)
  go_loopg [2] (kss.length + 1) (fun kq v2 w' => ∃ (vl vk : Value) (l : List Int) (kss : List (List Int)), Aside0 (kss.length < kq) ∧ Aside0 (l ++ kss.reverse.flatten = R) ∧ Aside0 (LT w w' g5 g8 vl vk l kss) ∧ Aside0 (l.length + kss.flatten.length ≤ 8388608 ∧ kss.length ≤ 8388608))
  case atStart => exact ⟨vl, vk, l, kss, ⟨Nat.lt_succ_self _⟩, HR, HT, HB⟩
  case round =>
    clear HT HR HB
    obtain ⟨vl, vk, l, kss, HK, HR, HT, HB⟩ := hrel
    obtain ⟨A0, c0, rfl⟩ : ∃ A c, vk = .slice A kss.length c := (by obtain ⟨ok, h1, -⟩ := HT.out.rk; exact Kd.R_slice h1)
    have hf := HT.out.cells
    rcases List.eq_nil_or_concat kss with rfl | ⟨ks, c, rfl⟩
    · go_wp2_with (first | fail)
      have hR := HR.out
      rw [List.reverse_nil, List.flatten_nil, List.append_nil] at hR
      subst hR
      exact bodyPost_end (v := .tuple #[]) (by simp [results, Try.results54, go_sem]) rfl ⟨rfl, vl, _, HT.out⟩
    · have hn : (ks.concat c).length = ks.length + 1 := List.length_concat
      have hlen : (0 : Int) < ((ks.concat c).length : Int) := by omega
      have hb1 : ((ks.concat c).length : Int) ≤ 8388608 := by have := HB.out.2; omega
      have hgc : (ks.concat c).getD ks.length [] = c := by rw [List.concat_eq_append, List.getD_eq_getElem?_getD, List.getElem?_append_right (Nat.le_refl _), Nat.sub_self]; rfl
      obtain ⟨g, c1, A, c2, he, hcell, hC, -⟩ := HT.out.last (j := ks.length) (by omega)
      rw [hgc] at hcell hC
      injection he with he1 he2 he3
      subst he1
      have HC := Aside0.mk (Kd.C_below hC (below_drew (Below.refl _ _)))
      have hi1 : (ks.length : Int) < ((ks.concat c).length : Int) := by omega
      have hi2 : (ks.length : Int) < (ks.length : Int) + 1 := by omega
      have HBC : Aside0 (l.length + c.length ≤ 8388608) := ⟨by have := HB.out.1; rw [List.concat_eq_append, List.flatten_append, List.length_append] at this; simp at this; omega⟩
      clear hgc hC he2 he3
      go_upto_region 2 with (first | fail)
      apply cut_rest (S := fun A1 n1 c1 w9 => LT w (w9.setCell ⟨g5, 0, none⟩ (.slice A1 n1 c1)) g5 g8 (.slice A1 n1 c1) (.slice (some ⟨g, 0, none⟩) (ks.concat c).length c0) (l ++ c) (ks.concat c))
      case' h =>
        intro REST
        go_region_law (refine late_rows rfl (.tmp 9) (.tmp 13) rfl HT.out.drew rfl c rfl HC.out HBC.out ?_; intro A1 n1 c3 w1 h1 h2 h3)
        all_goals exact REST A1 n1 c3 w1 h1
      case r =>
        clear hf hcell
        intro A1 n1 c3 w9 h1
        generalize hwt : World.setCell w9 _ _ = w4 at h1 ⊢
        have HT4 := Aside0.mk h1
        have hcap : ks.length + 1 ≤ c0 := by obtain ⟨ok, h2, -⟩ := h1.rk; have := (Kd.R_reads' h2).2.1; omega
        have hcap2 : (ks.length : Int) ≤ (c0 : Int) := by omega
        clear h1 hwt HT hcap
        have hf := HT4.out.cells
        go_wp2_with (first | fail)
        generalize hwt : World.setCell _ _ _ = w5
        have HT5 : Aside0 (LT w w5 g5 g8 (.slice A1 n1 c3) (.slice (some ⟨g, 0, none⟩) ks.length c0) (l ++ c) ks) := ⟨by
          rw [← hwt]
          have h := HT4.out.cut8 (m := ks.length) (by rw [hn]; omega)
          rw [List.concat_eq_append, List.take_left'] at h
          · exact h
          · rfl⟩
        clear hwt HT4 hf
        go_roundg (ks.length + 1)
        case measure => have := HK.out; rw [hn] at this; exact this
        case rel =>
          refine ⟨_, _, _, _, ⟨Nat.lt_succ_self _⟩, ⟨?_⟩, HT5, ⟨?_⟩⟩
          · have := HR.out
            rw [List.concat_eq_append, List.reverse_append, List.flatten_append] at this
            simpa using this
          · have h1 := HB.out.1
            have h2 := HB.out.2
            rw [hn] at h2
            rw [List.concat_eq_append, List.flatten_append, List.length_append] at h1
            simp only [List.length_append, List.flatten_cons, List.flatten_nil, List.append_nil] at h1 ⊢
            omega

def ints (l : List Nat) : List Int := l.map (fun n : Nat => (n : Int))
theorem ints_app (l m : List Nat) : ints (l ++ m) = ints l ++ ints m := List.map_append
theorem ints_len (l : List Nat) : (ints l).length = l.length := List.length_map _
theorem ints_flat (l : List Nat) (kss : List (List Nat)) : ints l ++ (kss.map ints).reverse.flatten = ints (l ++ kss.reverse.flatten) := by
  unfold ints
  rw [List.map_append, List.map_flatten, ← List.map_reverse]
theorem ints_sum (kss : List (List Nat)) : (kss.map ints).flatten.length = kss.flatten.length := by
  have : (kss.map ints).flatten = ints kss.flatten := by unfold ints; rw [List.map_flatten]
  rw [this, ints_len]
def kdsOf (l : List S52) : List Int := l.map (·.f0)
theorem kds_len (l : List S52) : (kdsOf l).length = l.length := List.length_map _
theorem kds_at (l : List S52) (j : Nat) (h : j < l.length) : (kdsOf l).getD j 0 = (rd_T52 l (j : Int)).f0 := by
  unfold kdsOf rd_T52
  rw [List.getD_eq_getElem?_getD, List.getElem?_map, List.getElem?_eq_getElem h, Int.toNat_natCast, List.getD_eq_getElem?_getD, List.getElem?_eq_getElem h]
  rfl
theorem wrap_ix {k : Nat} (h : k ≤ 4096) : wrap64 ((k : Int) + 1) = ((k + 1 : Nat) : Int) := by unfold wrap64; omega
def LatePost (w : World) (r : List Nat × Nat) (e : Ending) (w' : World) : Prop := ∃ v0 : Value, e = .returned (.tuple #[v0, .int .i64 (r.2 : Int)]) ∧ Kd.R (Kd.int .i64) 3 w' w.heap.size (fun _ => True) v0 (ints r.1) ∧ Below w.heap.size w w'

/-- on the way -/
structure LG (l0 : List S52) (from_ : Nat) (R : List Nat × Nat) (kq at_ : Nat) (l : List Nat) (kss : List (List Nat)) : Prop where
  m : l0.length - at_ < kq
  lo : from_ ≤ at_
  hi : at_ ≤ l0.length
  eq : lateN (kdsOf l0) at_ l kss.reverse = R
  sum : l.length + kss.flatten.length ≤ at_
  cnt : kss.length ≤ at_
theorem LG.spawn {l0 : List S52} {from_ kq at_ : Nat} {R : List Nat × Nat} {l : List Nat} {kss : List (List Nat)} (h : LG l0 from_ R kq at_ l kss) (hlt : at_ < l0.length) (k0 : (kdsOf l0).getD at_ 0 = 0) :
    LG l0 from_ R (l0.length - (lateN (kdsOf l0) (at_ + 1) [] []).2 + 1) (lateN (kdsOf l0) (at_ + 1) [] []).2 (l ++ [at_]) (kss ++ [(lateN (kdsOf l0) (at_ + 1) [] []).1]) ∧ l0.length - (lateN (kdsOf l0) (at_ + 1) [] []).2 + 1 < kq := by
  obtain ⟨a1, a2, a3⟩ := lateF_ge (kdsOf l0) ((kdsOf l0).length + 1) (at_ + 1) [] []
  have e := h.eq
  rw [lateN_step, if_pos (by rw [kds_len]; exact hlt), if_pos k0] at e
  have hm := h.m
  have hs := h.sum
  have hc := h.cnt
  have hlo := h.lo
  unfold lateN at e ⊢
  simp only [kds_len] at a1 a2 a3 e ⊢
  simp only [List.length_nil, List.flatten_nil] at a3
  refine ⟨⟨Nat.lt_succ_self _, by omega, a2 (by omega), by rw [List.reverse_append]; unfold lateN; simp only [kds_len]; exact e, ?_, ?_⟩, by omega⟩
  · rw [List.flatten_append, List.length_append, List.length_append]
    simp only [List.length_cons, List.length_nil, List.flatten_cons, List.flatten_nil, List.append_nil]
    omega
  · rw [List.length_append]
    simp only [List.length_cons, List.length_nil]
    omega
theorem LG.sync {l0 : List S52} {from_ kq at_ : Nat} {R : List Nat × Nat} {l : List Nat} {kss : List (List Nat)} (h : LG l0 from_ R kq at_ l kss) (hlt : at_ < l0.length) (k2 : (kdsOf l0).getD at_ 0 = 2) :
    LG l0 from_ R (l0.length - (at_ + 1) + 1) (at_ + 1) (l ++ kss.reverse.flatten ++ [at_]) [] ∧ l0.length - (at_ + 1) + 1 < kq := by
  have e := h.eq
  rw [lateN_step, if_pos (by rw [kds_len]; exact hlt), if_neg (by rw [k2]; decide), if_neg (by rw [k2]; decide), if_pos k2] at e
  have hm := h.m
  have hs := h.sum
  have hlo := h.lo
  have hf : kss.reverse.flatten.length = kss.flatten.length := by rw [List.length_flatten, List.length_flatten, List.map_reverse, List.sum_reverse]
  refine ⟨⟨Nat.lt_succ_self _, by omega, by omega, e, ?_, by simp⟩, by omega⟩
  simp only [List.length_append, List.length_cons, List.length_nil, List.flatten_nil]
  omega
theorem LG.other {l0 : List S52} {from_ kq at_ : Nat} {R : List Nat × Nat} {l : List Nat} {kss : List (List Nat)} (h : LG l0 from_ R kq at_ l kss) (hlt : at_ < l0.length) (k0 : (kdsOf l0).getD at_ 0 ≠ 0) (k1 : (kdsOf l0).getD at_ 0 ≠ 1) (k2 : (kdsOf l0).getD at_ 0 ≠ 2) :
    LG l0 from_ R (l0.length - (at_ + 1) + 1) (at_ + 1) (l ++ [at_]) kss ∧ l0.length - (at_ + 1) + 1 < kq := by
  have e := h.eq
  rw [lateN_step, if_pos (by rw [kds_len]; exact hlt), if_neg k0, if_neg k1, if_neg k2] at e
  have hm := h.m
  have hs := h.sum
  have hc := h.cnt
  have hlo := h.lo
  refine ⟨⟨Nat.lt_succ_self _, by omega, by omega, e, ?_, by omega⟩, by omega⟩
  simp only [List.length_append, List.length_cons, List.length_nil]
  omega
theorem LG.ret {l0 : List S52} {from_ kq at_ : Nat} {R : List Nat × Nat} {l : List Nat} {kss : List (List Nat)} (h : LG l0 from_ R kq at_ l kss) (hlt : at_ < l0.length) (k1 : (kdsOf l0).getD at_ 0 = 1) : R = (l ++ kss.reverse.flatten ++ [at_], at_ + 1) := by
  have e := h.eq
  rw [lateN_step, if_pos (by rw [kds_len]; exact hlt), if_neg (by rw [k1]; decide), if_pos k1] at e
  exact e.symm
theorem LG.done {l0 : List S52} {from_ kq at_ : Nat} {R : List Nat × Nat} {l : List Nat} {kss : List (List Nat)} (h : LG l0 from_ R kq at_ l kss) (hge : ¬ at_ < l0.length) : R = (l ++ kss.reverse.flatten, at_) := by
  have e := h.eq
  rw [lateN_step, if_neg (by rw [kds_len]; exact hge)] at e
  exact e.symm

theorem late_rec (l0 : List S52) (hl : l0.length ≤ 4096) (A0 : Option Addr) (c0 : Nat) (hc0 : l0.length ≤ c0) : ∀ (n from_ : Nat), from_ ≤ l0.length → l0.length - from_ < n → ∀ (w : World), Kd.C k52 w A0 l0.length l0 →
    Calls Try.prog 38 #[.slice A0 l0.length c0, .int .i64 (from_ : Int), .slice none 0 0] w (LatePost w (lateN (kdsOf l0) from_ [] []))
  | 0, from_, _, h, _, _ => absurd h (Nat.not_lt_zero _)
  | n + 1, from_, hfr, hn, w, hC => by
    have IH := Aside0.mk (fun (f2 : Nat) (h1 : f2 ≤ l0.length) (h2 : l0.length - f2 < n) (w2 : World) (h3 : Kd.C k52 w2 A0 l0.length l0) => late_rec l0 hl A0 c0 hc0 n f2 h1 h2 w2 h3)
    obtain ⟨R, hR⟩ : ∃ R, lateN (kdsOf l0) from_ [] [] = R := ⟨_, rfl⟩
    have HG0 : Aside0 (LG l0 from_ R (l0.length + 1) from_ [] []) := ⟨⟨by omega, Nat.le_refl _, hfr, hR, Nat.zero_le _, Nat.zero_le _⟩⟩
    rw [hR]
    have HL := Aside0.mk (Locs.nil w)
    have HC := Aside0.mk hC
    have HN := Aside0.mk (And.intro hl (And.intro hfr hn))
    have hmf : ∀ (fn : Go.Fn) (first cap : Array Value) (w : World), (Instr.makeFunc fn first cap).run Try.prog w = .ok (.func fn first cap) w := fun _ _ _ _ => rfl
    have hu46 := Try.underlying46
    have hu24 := Try.underlying24
    have hu52 := Try.underlying52
    clear hC hR hl hfr hn
    go_enter Try.func38, Try.ntmps38
    go_upto_region 1 with (first | ((with_reducible refine gate_dst (N := 5) rfl ?_); (try (refine gate_guard (by rfl) ?_; dsimp only)); refine box_locs (by repeat (first | exact HL.out | refine Locs.drew ?_ | refine Locs.drewN ?_ _)) ?hg (N := 5) ?hd (cs := #[.slice none 0 0]) (t := 24) ?hr ?_; (case hd => rfl); (case hg => rfl); (case hr => first | (go_simp; done) | (go_simp; rfl)); intro g5 wb1 HLn HKb; clear HL; have HL := HLn; clear HLn HKb; (try clear hf); have hf := HL.out.facts; simp only [factsOf, List.cons_append, List.nil_append] at hf; skip))
    refine wp_scope_straight ?_
    go_wp2_with (first | ((with_reducible refine gate_dst (N := 8) rfl ?_); (try (refine gate_guard (by rfl) ?_; dsimp only)); refine box_locs (by repeat (first | exact HL.out | refine Locs.drew ?_ | refine Locs.drewN ?_ _)) ?hg (N := 8) ?hd (cs := #[.slice none 0 0]) (t := 46) ?hr ?_; (case hd => rfl); (case hg => rfl); (case hr => first | (go_simp; done) | (go_simp; rfl)); intro g8 wb2 HLn HKb; clear HL; have HL := HLn; clear HLn HKb; (try clear hf); have hf := HL.out.facts; simp only [factsOf, List.cons_append, List.nil_append] at hf; skip))
    have HT := Aside0.mk (LT.start (cs := #[]) (HL.out.at 1 rfl) (HL.out.at 0 rfl) (HL.out.ge 1 rfl) (HL.out.ge 0 rfl) HL.out.below)
    clear HL
    (try clear hf)
    refine wp_label ?_
    go_wp2_with (first | fail)
    go_loopg [10] (l0.length + 1) (fun kq v10 w' => ∃ (at_ : Nat) (l : List Nat) (kss : List (List Nat)) (vl vk : Value), v10 = .int .i64 (at_ : Int) ∧ Aside0 (LG l0 from_ R kq at_ l kss) ∧ Aside0 (LT w w' g5 g8 vl vk (ints l) (kss.map ints)))
    case atStart => exact ⟨from_, [], [], _, _, rfl, HG0, HT⟩
    case round =>
      clear HT HG0
      obtain ⟨at_, l, kss, vl, vk, rfl, HG, HT⟩ := hrel
      obtain ⟨A8, n8, c8, rfl⟩ : ∃ A n c, vk = .slice A n c := (by obtain ⟨ok, h1, -⟩ := HT.out.rk; obtain ⟨A, c, h⟩ := Kd.R_slice h1; exact ⟨A, _, c, h⟩)
      obtain ⟨A5, n5, c5, rfl⟩ : ∃ A n c, vl = .slice A n c := (by obtain ⟨A, c, h⟩ := Kd.R_slice HT.out.rl; exact ⟨A, _, c, h⟩)
      have HBD : Aside0 ((ints l).length + (kss.map ints).flatten.length ≤ 8388608 ∧ (kss.map ints).length ≤ 8388608) := ⟨by
        have h1 := HG.out.sum
        have h2 := HG.out.cnt
        have h3 := HG.out.hi
        have h4 := HN.out.1
        rw [ints_len, ints_sum, List.length_map]
        omega⟩
      by_cases hlt : at_ < l0.length
      · have HLT := Aside0.mk hlt
        have hat : (at_ : Int) ≤ 4096 := by have := HN.out.1; omega
        have hlt2 : (at_ : Int) < (l0.length : Int) := by omega
        obtain ⟨ad, rfl, hx, -⟩ := at_T52 (Kd.C_below HC.out HT.out.below) (at_ : Int) (by omega) hlt2
        rw [Int.toNat_natCast] at hx
        have HKD := kds_at l0 at_ hlt
        obtain ⟨kd, hkd⟩ : ∃ kd, (rd_T52 l0 (at_ : Int)).f0 = kd := ⟨_, rfl⟩
        rw [hkd] at hx HKD
        have HKD := Aside0.mk HKD
        have hf := HT.out.cells
        clear hkd hlt
        by_cases k0 : kd = 0
        · subst k0
          go_upto_region 8 with (first | ((with_reducible refine gate_builtin (b := .append) (xs := #[.tmp 26, .tmp 28]) rfl ?_); at_builtin; refine late_app1 rfl (.tmp 26) (.tmp 28) rfl HT.out rfl (at_ : Int) rfl (by have := HBD.out.1; omega) ?_; intro A1 n1 c1 w1 P1 h2 h3; (try clear hf)))
          generalize hwt : World.setCell _ _ _ = w2 at P1 ⊢
          clear HT hwt h2 h3
          have HT := P1
          clear P1
          have HB8 : Aside0 (g5 < w2.heap.size ∧ (∀ k, (Value.slice A1 n1 c1).ownBlock = some k → k < w2.heap.size) ∧ w.heap.size ≤ w2.heap.size) := ⟨blk_lt HT.out.b5, Kd.R_lt HT.out.rl, HT.out.below.size⟩
          go_upto_region 9 with (first | (go_at_call 38; have hcall := IH.out (at_ + 1) (by have := HLT.out; omega) (by have := HN.out.2.2; have := HG.out.lo; have := HLT.out; omega) _ (Kd.C_below HC.out HT.out.below); rw [show (((at_ + 1 : Nat)) : Int) = (at_ : Int) + 1 from Int.natCast_succ at_] at hcall; (with_reducible refine hcall.mono ?_); clear hcall; rintro e_ wz hP; obtain ⟨vz, rfl, hRz, hbz⟩ := hP; obtain ⟨Az, cz, rfl⟩ := Kd.R_slice hRz; have HZ := Aside0.mk hRz; have HTn := Aside0.mk (HT.out.step hbz); clear HT hRz hbz; have HT := HTn; clear HTn; have hf := HT.out.cells))
          go_wp2_with (first | ((with_reducible refine gate_builtin (b := .append) (xs := #[.tmp 37, .tmp 39]) rfl ?_); at_builtin; refine late_app8 rfl (.tmp 37) (.tmp 39) rfl HT.out rfl HZ.out HB8.out.1 HB8.out.2.1 HB8.out.2.2 rfl (by have := HBD.out.2; omega) ?_; intro A2 n2 c2 w3 P1 h2 h3; clear hf))
          generalize hwt : World.setCell _ _ _ = w4 at P1 ⊢
          go_roundg (l0.length - (lateN (kdsOf l0) (at_ + 1) [] []).2 + 1)
          case measure => exact (HG.out.spawn HLT.out HKD.out).2
          case rel => exact ⟨_, l ++ [at_], kss ++ [(lateN (kdsOf l0) (at_ + 1) [] []).1], _, _, rfl, ⟨(HG.out.spawn HLT.out HKD.out).1⟩, ⟨by rw [ints_app, List.map_append]; exact P1.out⟩⟩
        · have K0 := Aside0.mk k0
          have k0b : (kd == 0) = false := beq_eq_false_iff_ne.mpr k0
          have HBF : Aside0 ((ints (l ++ kss.reverse.flatten)).length ≤ 8388607) := ⟨by
            rw [← ints_flat]
            have h1 := HG.out.sum
            have h3 := HG.out.hi
            have h4 := HN.out.1
            have hf : kss.reverse.flatten.length = kss.flatten.length := by rw [List.length_flatten, List.length_flatten, List.map_reverse, List.sum_reverse]
            rw [ints_flat, ints_len, List.length_append]
            omega⟩
          clear k0
          by_cases k2 : kd = 2
          · subst k2
            clear k0b
            go_upto_region 18 with (first | (go_at_call 54; have hcall := wait_calls HT.out HBD.out.1 HBD.out.2; (with_reducible refine hcall.mono ?_); clear hcall; rintro e_ ww hP; obtain ⟨rfl, vl, vk, hLT⟩ := hP; clear HT; (try clear hf); (try rw [ints_flat] at hLT); have HT := Aside0.mk hLT; clear hLT; obtain ⟨Al, nl, cl, hvl⟩ : ∃ A n c, vl = Value.slice A n c := (let ⟨A, c, h⟩ := Kd.R_slice HT.out.rl; ⟨A, _, c, h⟩); subst hvl; have hf := HT.out.cells) | ((with_reducible refine gate_builtin (b := .append) (xs := #[.tmp 56, .tmp 58]) rfl ?_); at_builtin; refine late_app1 rfl (.tmp 56) (.tmp 58) rfl HT.out rfl (at_ : Int) rfl (by have := HBF.out; omega) ?_; intro A1 n1 c1 w1 P1 h2 h3; (try clear hf)))
            generalize hwt : World.setCell _ _ _ = w4 at P1 ⊢
            clear hwt HT h2 h3
            go_wp2_with (first | fail)
            go_roundg (l0.length - (at_ + 1) + 1)
            case measure => exact (HG.out.sync HLT.out HKD.out).2
            case rel => exact ⟨at_ + 1, l ++ kss.reverse.flatten ++ [at_], [], _, _, (by first | rfl | rw [wrap_ix (by have := HG.out.hi; have := HN.out.1; omega)]), ⟨(HG.out.sync HLT.out HKD.out).1⟩, ⟨by rw [ints_app]; exact P1.out⟩⟩
          · have K2 := Aside0.mk k2
            have k2b : (kd == 2) = false := beq_eq_false_iff_ne.mpr k2
            clear k2
            by_cases k1 : kd = 1
            · subst k1
              clear k0b k2b
              go_upto_region 16 with (first | (go_at_call 54; have hcall := wait_calls HT.out HBD.out.1 HBD.out.2; (with_reducible refine hcall.mono ?_); clear hcall; rintro e_ ww hP; obtain ⟨rfl, vl, vk, hLT⟩ := hP; clear HT; (try clear hf); (try rw [ints_flat] at hLT); have HT := Aside0.mk hLT; clear hLT; obtain ⟨Al, nl, cl, hvl⟩ : ∃ A n c, vl = Value.slice A n c := (let ⟨A, c, h⟩ := Kd.R_slice HT.out.rl; ⟨A, _, c, h⟩); subst hvl; have hf := HT.out.cells) | ((with_reducible refine gate_builtin (b := .append) (xs := #[.tmp 50, .tmp 52]) rfl ?_); at_builtin; refine late_app1 rfl (.tmp 50) (.tmp 52) rfl HT.out rfl (at_ : Int) rfl (by have := HBF.out; omega) ?_; intro A1 n1 c1 w1 P1 h2 h3; (try clear hf)))
              generalize hwt : World.setCell _ _ _ = w4 at P1 ⊢
              clear hwt HT h2 h3
              have HT := P1
              clear P1
              go_wp2_with (first | (go_at_call 54; have hcall := wait_calls HT.out (by have := HBF.out; rw [List.length_append]; simp only [List.length_cons, List.length_nil, List.flatten_nil]; omega) (Nat.zero_le _); (with_reducible refine hcall.mono ?_); clear hcall; rintro e_ ww hP; obtain ⟨rfl, vl, vk, hLT⟩ := hP; clear HT; (try clear hf); (try rw [ints_flat] at hLT); have HT := Aside0.mk hLT; clear hLT; obtain ⟨Al, nl, cl, hvl⟩ : ∃ A n c, vl = Value.slice A n c := (let ⟨A, c, h⟩ := Kd.R_slice HT.out.rl; ⟨A, _, c, h⟩); subst hvl; have hf := HT.out.cells))
              rw [Exit.noGoto_ret]
              go_ret2
              have e := HG.out.ret HLT.out HKD.out
              rw [e]
              exact ⟨.slice Al nl cl, rfl, by rw [ints_app]; have h := HT.out.rl; rw [List.reverse_nil, List.flatten_nil, List.append_nil] at h; exact h, HT.out.below⟩
            · have K1 := Aside0.mk k1
              have k1b : (kd == 1) = false := beq_eq_false_iff_ne.mpr k1
              clear k1
              go_upto_region 18 with (first | ((with_reducible refine gate_builtin (b := .append) (xs := #[.tmp 56, .tmp 58]) rfl ?_); at_builtin; refine late_app1 rfl (.tmp 56) (.tmp 58) rfl HT.out rfl (at_ : Int) rfl (by have := HBD.out.1; omega) ?_; intro A1 n1 c1 w1 P1 h2 h3; (try clear hf)))
              generalize hwt : World.setCell _ _ _ = w4 at P1 ⊢
              clear hwt HT h2 h3
              go_wp2_with (first | fail)
              go_roundg (l0.length - (at_ + 1) + 1)
              case measure => exact (HG.out.other HLT.out (HKD.out ▸ K0.out) (HKD.out ▸ K1.out) (HKD.out ▸ K2.out)).2
              case rel => exact ⟨at_ + 1, l ++ [at_], kss, _, _, (by first | rfl | rw [wrap_ix (by have := HG.out.hi; have := HN.out.1; omega)]), ⟨(HG.out.other HLT.out (HKD.out ▸ K0.out) (HKD.out ▸ K1.out) (HKD.out ▸ K2.out)).1⟩, ⟨by rw [ints_app]; exact P1.out⟩⟩
      · have hge : ¬ ((at_ : Int) < (l0.length : Int)) := by omega
        have HGE := Aside0.mk hlt
        have hf := HT.out.cells
        clear hlt
        go_wp2_with (first | (go_at_call 54; have hcall := wait_calls HT.out HBD.out.1 HBD.out.2; (with_reducible refine hcall.mono ?_); clear hcall; rintro e_ ww hP; obtain ⟨rfl, vl, vk, hLT⟩ := hP; clear HT; (try clear hf); (try rw [ints_flat] at hLT); have HT := Aside0.mk hLT; clear hLT; obtain ⟨Al, nl, cl, hvl⟩ : ∃ A n c, vl = Value.slice A n c := (let ⟨A, c, h⟩ := Kd.R_slice HT.out.rl; ⟨A, _, c, h⟩); subst hvl; have hf := HT.out.cells))
        rw [Exit.noGoto_ret]
        go_ret2
        have e := HG.out.done HGE.out
        rw [e]
        exact ⟨.slice Al nl cl, rfl, HT.out.rl, HT.out.below⟩
end Go.Proofs.Ytkecgjmbamaejaa.P
