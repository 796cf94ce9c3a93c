/- plunderref19.Steps: its calls. -/
import Derived.Test.YtkecgjmbamaejaaPERB
import Derived.Test.YtkecgjmbamaejaaPELat
import Derived.Deep.DeepCutAuto
namespace Go.Proofs.Ytkecgjmbamaejaa.P
open Go.RowKit Go.Proofs.YtkecgjmbamaejaaW.PrintWords Go.Proofs.YtkecgjmbamaejaaW.PrintLast Go.Proofs.YtkecgjmbamaejaaW.PrintMore
set_option linter.unusedVariables false
set_option linter.unusedSimpArgs false
set_option maxHeartbeats 4000000
set_option maxRecDepth 100000

section
variable {ops : Array Oper} {rest : List Oper} {o : Oper} {a : Act} {Q : Exit → Act → World → Prop} {w W : World} {vf : Value} {fs : List (List Int)}
theorem ste_make {n : Nat} (hgd : o.guard = none) {N : Tmp} (hd : o.dst = some N) (x y : Operand) (ho : o.op = .makeSlice 46 x y) (hx : a.eval x = .int .i64 (n : Int)) (hy : a.eval y = .int .i64 (n : Int)) (hn : n ≤ 4096) (HB : Below w.heap.size w W)
    (h : ∀ A1 n1 c1 w1, Kd.S (Kd.slice 3 (Kd.int .i64)) 24 w1 w.heap.size (fun _ => True) (.slice A1 n1 c1) (List.replicate n []) → Below w.heap.size w w1 → wpList Try.prog ops Q rest (a.put o.dst (.slice A1 n1 c1)) w1) : wpList Try.prog ops Q (o :: rest) a W := by
  refine Kd.S_make (Kd.slice 3 (Kd.int .i64)) (w0 := w) w.heap.size 24 hgd hd 46 x y ho (n : Int) hx hy Try.underlying46 (.slice none 0 0) 24 info24 rfl (by decide) (by omega) [] (ok := fun _ => True) (okp := fun _ => True) ⟨_, rfl, Kd.R_nil _ _ _ _ _⟩ (fun _ hk => hk) trivial (by omega) (by omega) HB HB.size ?_
  intro v1 w1 hS hb _ _
  obtain ⟨A1, c1, rfl⟩ := Kd.S_slice hS
  rw [Int.toNat_natCast] at hS
  exact h A1 _ c1 w1 hS hb
theorem ste_lit (hgd : o.guard = none) {N : Tmp} (hd : o.dst = some N) (hrun : (execOp a.eval o).run Try.prog W = .ok (.value (.slice (some ⟨W.heap.size, 0, none⟩) 1 1)) (W.alloc (.cells #[.int .i64 (-1), .int .i64 (-1), .slice none 0 0] 98)))
    (HF : Kd.S (Kd.slice 3 (Kd.int .i64)) 24 W w.heap.size (fun _ => True) vf fs) (HB : Below w.heap.size w W)
    (h : ∀ A1 n1 c1 w1, ST w w1 (fun _ => False) vf (.slice A1 n1 c1) fs [⟨-1, -1, []⟩] → wpList Try.prog ops Q rest (a.put o.dst (.slice A1 n1 c1)) w1) : wpList Try.prog ops Q (o :: rest) a W := by
  refine Kd.S_lit k98 (w0 := W) W.heap.size 98 hgd hd (xs := [(⟨-1, -1, []⟩ : S98)]) (inner := [.int .i64 (-1), .int .i64 (-1), .slice none 0 0]) (ok := fun k => W.heap.size ≤ k) (okp := fun _ => False) hrun ?_ (fun _ hk => hk.elim) (Nat.le_refl _) (Below.refl _ _) (Nat.le_refl _) (by simp) ?_
  · refine ⟨rfl, fun j p hj => ?_⟩
    cases j with
    | zero =>
      injection hj with hj
      subst hj
      exact k98_mkM W W.heap.size _ ⟨-1, -1, []⟩ (Kd.R_nil _ _ _ _ _)
    | succ j => cases hj
  · intro v1 w1 hS hb _ _
    obtain ⟨A1, c1, rfl⟩ := Kd.S_slice hS
    refine h A1 _ c1 w1 ⟨below_step HB hb, fun _ hk => hk.elim, fun k => True ∧ k < W.heap.size, fun k => W.heap.size ≤ k, Kd.S_old HF hb, Kd.S_lower hS HB.size, fun k hk ho => ?_, fun _ _ hp => hp⟩
    have := hk.2
    omega
end

theorem len_le_snoc {α : Type} (l : List α) (x : α) : l.length ≤ (l ++ [x]).length := by rw [List.length_append]; exact Nat.le_add_right _ _
def StePost (w : World) (ks : List Int) (e : Ending) (w' : World) : Prop := ∃ v0 : Value, e = .returned v0 ∧ Kd.S (Kd.slice 3 (Kd.int .i64)) 24 w' w.heap.size (fun _ => True) v0 ((List.range ks.length).map (frm ks)) ∧ Below w.heap.size w w'
theorem steps_calls (l0 : List S52) (hl : l0.length ≤ 4096) (hfair : fair (kdsOf l0)) (A0 : Option Addr) (c0 : Nat) (hc0 : l0.length ≤ c0) (w : World) (hC : Kd.C k52 w A0 l0.length l0) :
    Calls Try.prog 55 #[.slice A0 l0.length c0] w (StePost w (kdsOf l0)) := by
  have HC := Aside0.mk hC
  have HFA := Aside0.mk hfair
  have HLE := Aside0.mk hl
  obtain ⟨ks, hks⟩ : ∃ ks, kdsOf l0 = ks := ⟨_, rfl⟩
  have HKS := Aside0.mk hks
  have HKL : Aside0 (ks.length = l0.length) := ⟨by rw [← hks]; exact kds_len l0⟩
  rw [hks]
  have hu46 := Try.underlying46
  have hu24 := Try.underlying24
  have hu52 := Try.underlying52
  have hu98 := Try.underlying98
  have hu99 := Try.underlying99
  clear hC hfair hl hks
  go_enter Try.func55, Try.ntmps55
  go_upto_region 3 with (first | ((with_reducible refine gate_dst (N := 12) rfl ?_); refine ste_make (w := w) (n := l0.length) rfl (N := 12) rfl _ _ rfl rfl rfl HLE.out (Below.refl _ _) ?_; intro A3 n3 c3 w1 hS hb; have HS := Aside0.mk hS; have HB := Aside0.mk hb; clear hS hb) | ((with_reducible refine gate_dst (N := 14) rfl ?_); refine ste_lit (w := w) ?hg (N := 14) ?hd ?hr HS.out HB.out ?_; (case hd => rfl); (case hg => rfl); (case hr => first | (go_simp; done) | (go_simp; rfl)); intro A4 n4 c4 w2 hT; have HT := Aside0.mk hT; clear hT HS HB))
  have HT2 : Aside0 (ST w w2 (fun _ => False) (.slice A3 n3 c3) (.slice A4 n4 c4) (fsAt ks 0) (tsAt ks 0)) := ⟨by rw [fsAt_zero, HKL.out]; exact HT.out⟩
  clear HT
  go_wp2_with (first | fail)
  go_loopg [4, 5] (l0.length + 1) (fun kq v4 v5 w' => ∃ (i : Nat) (vo : Value), vo = v4 ∧ v5 = .int .i64 (i : Int) ∧ Aside0 (l0.length - i < kq ∧ i ≤ l0.length) ∧ Aside0 (ST w w' (fun _ => False) (.slice A3 n3 c3) vo (fsAt ks i) (tsAt ks i)))
  case atStart => exact ⟨0, _, rfl, rfl, ⟨by omega, Nat.zero_le _⟩, HT2⟩
  case round =>
    clear HT2
    obtain ⟨i, vo, rfl, rfl, HI, HT⟩ := hrel
    by_cases hlt : i < l0.length
    · have HLT := Aside0.mk hlt
      have hlt2 : (i : Int) < (l0.length : Int) := by omega
      have hat : (i : Int) ≤ 4096 := by have := HLE.out; omega
      obtain ⟨t, u, hd⟩ := dts_cons ks i
      have HD := Aside0.mk hd
      obtain ⟨L, hL⟩ : ∃ L, u.reverse.map tS = L := ⟨_, rfl⟩
      have hfl : (fsAt ks i).length = l0.length := by rw [fsAt_len (by rw [HKL.out]; omega), HKL.out]
      obtain ⟨gf, hA3, rfl⟩ : ∃ gf, A3 = some ⟨gf, 0, none⟩ ∧ l0.length = n3 := by
        obtain ⟨g, cf, vi, he, -⟩ := HT.out.frow (i := i) (by rw [hfl]; exact hlt)
        injection he with e1 e2 e3
        exact ⟨g, e1, by rw [e2, hfl]⟩
      subst hA3
      have HFL := Aside0.mk hfl
      have hT := HT.out
      clear hfl
      have HUL : Aside0 (u.length = L.length ∧ L.length ≤ i) := ⟨by
        have e : L.length = u.length := by rw [← hL, List.length_map, List.length_reverse]
        have h1 := dts_len ks i
        have h2 := frs_le ks i
        rw [hd] at h1
        simp only [List.length_cons] at h1
        omega⟩
      rw [tsAt_cons hd, hL] at hT
      have HTL := Aside0.mk hL
      have HO : Aside0 (t.out.length ≤ i) := ⟨dts_out ks i t (by rw [hd]; exact List.mem_cons_self)⟩
      obtain ⟨g4, c4, vi, hvo, ⟨hx0, hx1, hx2⟩, -, hRi, -, -, -⟩ := hT.orow (i := L.length) (by rw [List.length_append]; simp)
      rw [List.length_append, List.length_singleton] at hvo
      subst hvo
      rw [snoc_at] at hx0 hx1 hRi
      obtain ⟨la, tb, out⟩ := t
      replace hx0 : wr.cell? ⟨g4, L.length * 3, none⟩ = some (.int .i64 la) := hx0
      replace hx1 : wr.cell? ⟨g4, L.length * 3 + 1, none⟩ = some (.int .i64 tb) := hx1
      replace hRi : Kd.R (Kd.int .i64) 3 wr w.heap.size (fun _ => True) vi out := hRi
      replace HO : Aside0 (out.length ≤ i) := HO
      obtain ⟨Ai, ni, ci, rfl⟩ : ∃ A n c, vi = .slice A n c := (by obtain ⟨A, c, h⟩ := Kd.R_slice hRi; exact ⟨A, _, c, h⟩)
      have HT3 := Aside0.mk hT
      have hnl : (0 : Int) ≤ (L.length : Int) := by omega
      have hnl2 : (L.length : Int) < (L.length : Int) + 1 := by omega
      have hnl3 : (L.length : Int) ≤ 4096 := by have := HUL.out.2; omega
      clear hd hL hT HT hRi
      go_upto_region 8 with (first | fail)
      have HT5 := Aside0.mk (HT3.out.fresh (below_alloc (Below.refl _ _) (.cells #[.int .i64 la, .int .i64 tb, .slice Ai ni ci] 98 (0, 0))) (by simp))
      have HB7 := Aside0.mk (blk_new wr (.cells #[.int .i64 la, .int .i64 tb, .slice Ai ni ci] 98 (0, 0)))
      have HG7 : Aside0 (w.heap.size ≤ wr.heap.size) := ⟨HT3.out.below.size⟩
      have HX5 := Aside0.mk (pw_cell_below (below_alloc (Below.refl _ _) (.cells #[.int .i64 la, .int .i64 tb, .slice Ai ni ci] 98 (0, 0))) hx2)
      clear HT3 hx0 hx1 hx2
      generalize World.alloc wr _ = w5 at HT5 HB7 HX5 ⊢
      generalize wr.heap.size = g7 at HT5 HB7 HG7 ⊢
      have hc7 : ∀ j, w5.cell? ⟨g7, j, none⟩ = #[.int .i64 la, .int .i64 tb, .slice Ai ni ci][j]? := fun j => blk_cell HB7.out j
      go_upto_if 30 with (fail)
      go_cut [6] (fun v6 wc => v6 = .int .i64 (L.length : Int) ∧ Aside0 (ST w wc (fun g => g = g7) (.slice (some ⟨gf, 0, none⟩) l0.length c3) (.slice (some ⟨g4, 0, none⟩) (L.length + 1) c4) ((fsAt ks i).set i (if la ≥ 0 then [la] else if tb ≥ 0 then [tb] else [])) (L ++ [tS ⟨la, tb, out⟩])) ∧ Aside0 (wc.heap[g7]? = some (.cells #[.int .i64 la, .int .i64 tb, .slice Ai ni ci] 98 (0, 0))) ∧ Aside0 (wc.cell? ⟨g4, L.length * 3 + 2, none⟩ = some (.slice Ai ni ci)))
      case first =>
        by_cases h1 : 0 ≤ la
        · have HLR : Aside0 (([] : List Int).length ≤ 8388608) := ⟨by simp⟩
          have H1 := Aside0.mk h1
          go_upto_region 9 with (first | fail)
          have HTd := HT5.out.step (below_drew (Below.refl _ _))
          obtain ⟨gq, cq, vr, hq, hrx, hrf, hRr, hput⟩ := HTd.frow (i := i) (by rw [HFL.out]; exact HLT.out)
          injection hq with q1 q2 q3
          injection q1 with q1
          injection q1 with q1
          subst q1
          rw [fsAt_at (by rw [HKL.out]; exact HLT.out)] at hRr
          obtain ⟨Ar, nr, cr, rfl⟩ : ∃ A n c, vr = .slice A n c := (by obtain ⟨A, c, h⟩ := Kd.R_slice hRr; exact ⟨A, _, c, h⟩)
          have hrx2 : w5.cell? ⟨gf, i, none⟩ = some (.slice Ar nr cr) := hrx
          have hgl : gf < w5.heap.size := World.block_lt_of_cell? w5 _ hrx2
          have h7l : g7 < w5.heap.size := blk_lt HB7.out
          have h4l : g4 < w5.heap.size := World.block_lt_of_cell? w5 _ HX5.out
          have HRR := Aside0.mk hRr
          have HPUT := Aside0.mk hput
          have HBD := Aside0.mk HTd.below
          clear q2 q3 hrx hrf hRr hput HTd
          apply cut_rest (S := fun A1 n1 c1 w9 => ST w (w9.setCell ⟨gf, i, none⟩ (.slice A1 n1 c1)) (fun g => g = g7) (.slice (some ⟨gf, 0, none⟩) l0.length c3) (.slice (some ⟨g4, 0, none⟩) (L.length + 1) c4) ((fsAt ks i).set i (([] : List Int) ++ [la])) (L ++ [tS ⟨la, tb, out⟩]) ∧ (w9.setCell ⟨gf, i, none⟩ (.slice A1 n1 c1)).heap[g7]? = w5.heap[g7]? ∧ (w9.setCell ⟨gf, i, none⟩ (.slice A1 n1 c1)).heap[g4]? = w5.heap[g4]?)
          case' h =>
            intro REST
            go_region_law (refine int_app_step (w := w) rfl (.tmp 36) (.tmp 39) rfl HRR.out HBD.out rfl la rfl HLR.out ?_; intro A1 n1 c1 w1 hR hg hb hat; obtain ⟨p1, p2, p3, p4⟩ := HPUT.out w1 _ _ hR hg hb hat)
            all_goals exact REST A1 n1 c1 w1 ⟨p1, p4 g7 (Or.inl rfl) h7l, p4 g4 (Or.inr rfl) h4l⟩
          case r =>
            intro A1 n1 c1 w9 hS
            generalize hwt : World.setCell w9 _ _ = w6 at hS ⊢
            obtain ⟨hS1, hS2, hS3⟩ := hS
            have HT6 := Aside0.mk hS1
            have HB6 := Aside0.mk (hS2.trans HB7.out)
            have HX6 := Aside0.mk ((cell_same hS3).trans HX5.out)
            clear hwt hS1 hS2 hS3 hrx2 hgl h7l h4l
            go_wp2_with (first | fail)
            go_meet
            case rel => exact ⟨rfl, ⟨by rw [if_pos H1.out]; exact HT6.out⟩, HB6, HX6⟩
        · have h1b : decide (la ≥ 0) = false := decide_eq_false h1
          have h1c : decide (0 ≤ la) = false := decide_eq_false h1
          have H1 := Aside0.mk h1
          by_cases h2 : 0 ≤ tb
          · have HLR : Aside0 (([] : List Int).length ≤ 8388608) := ⟨by simp⟩
            have H2 := Aside0.mk h2
            go_upto_region 11 with (first | fail)
            have HTd := HT5.out.step (below_drew (Below.refl _ _))
            obtain ⟨gq, cq, vr, hq, hrx, hrf, hRr, hput⟩ := HTd.frow (i := i) (by rw [HFL.out]; exact HLT.out)
            injection hq with q1 q2 q3
            injection q1 with q1
            injection q1 with q1
            subst q1
            rw [fsAt_at (by rw [HKL.out]; exact HLT.out)] at hRr
            obtain ⟨Ar, nr, cr, rfl⟩ : ∃ A n c, vr = .slice A n c := (by obtain ⟨A, c, h⟩ := Kd.R_slice hRr; exact ⟨A, _, c, h⟩)
            have hrx2 : w5.cell? ⟨gf, i, none⟩ = some (.slice Ar nr cr) := hrx
            have hgl : gf < w5.heap.size := World.block_lt_of_cell? w5 _ hrx2
            have h7l : g7 < w5.heap.size := blk_lt HB7.out
            have h4l : g4 < w5.heap.size := World.block_lt_of_cell? w5 _ HX5.out
            have HRR := Aside0.mk hRr
            have HPUT := Aside0.mk hput
            have HBD := Aside0.mk HTd.below
            clear q2 q3 hrx hrf hRr hput HTd
            apply cut_rest (S := fun A1 n1 c1 w9 => ST w (w9.setCell ⟨gf, i, none⟩ (.slice A1 n1 c1)) (fun g => g = g7) (.slice (some ⟨gf, 0, none⟩) l0.length c3) (.slice (some ⟨g4, 0, none⟩) (L.length + 1) c4) ((fsAt ks i).set i (([] : List Int) ++ [tb])) (L ++ [tS ⟨la, tb, out⟩]) ∧ (w9.setCell ⟨gf, i, none⟩ (.slice A1 n1 c1)).heap[g7]? = w5.heap[g7]? ∧ (w9.setCell ⟨gf, i, none⟩ (.slice A1 n1 c1)).heap[g4]? = w5.heap[g4]?)
            case' h =>
              intro REST
              go_region_law (refine int_app_step (w := w) rfl (.tmp 50) (.tmp 53) rfl HRR.out HBD.out rfl tb rfl HLR.out ?_; intro A1 n1 c1 w1 hR hg hb hat; obtain ⟨p1, p2, p3, p4⟩ := HPUT.out w1 _ _ hR hg hb hat)
              all_goals exact REST A1 n1 c1 w1 ⟨p1, p4 g7 (Or.inl rfl) h7l, p4 g4 (Or.inr rfl) h4l⟩
            case r =>
              intro A1 n1 c1 w9 hS
              generalize hwt : World.setCell w9 _ _ = w6 at hS ⊢
              obtain ⟨hS1, hS2, hS3⟩ := hS
              have HT6 := Aside0.mk hS1
              have HB6 := Aside0.mk (hS2.trans HB7.out)
              have HX6 := Aside0.mk ((cell_same hS3).trans HX5.out)
              clear hwt hS1 hS2 hS3 hrx2 hgl h7l h4l
              go_wp2_with (first | fail)
              go_meet
              case rel => exact ⟨rfl, ⟨by rw [if_neg (by have := H1.out; omega), if_pos H2.out]; exact HT6.out⟩, HB6, HX6⟩
          · have h2b : decide (0 ≤ tb) = false := decide_eq_false h2
            have H2 := Aside0.mk h2
            go_wp2_with (first | fail)
            go_meet
            case rel => exact ⟨rfl, ⟨by rw [if_neg (by have := H1.out; omega), if_neg (by have := H2.out; omega), fsAt_nil (by rw [HKL.out]; exact HLT.out)]; exact HT5.out⟩, HB7, HX5⟩
      case rest =>
        clear HT5 HB7 HX5 hc7
        obtain ⟨rfl, HT6, HB6, HX6⟩ := hcut
        obtain ⟨ad, rfl, hx, -⟩ := at_T52 (Kd.C_below HC.out HT6.out.below) (i : Int) (by omega) hlt2
        rw [Int.toNat_natCast] at hx
        have hkd0 := kds_at l0 i HLT.out
        rw [HKS.out] at hkd0
        obtain ⟨kd, hkd⟩ : ∃ kd, (rd_T52 l0 (i : Int)).f0 = kd := ⟨_, rfl⟩
        rw [hkd] at hx hkd0
        have HKD := Aside0.mk hkd0
        clear hkd hkd0
        obtain ⟨p1, hp1⟩ : ∃ p1, (if la ≥ 0 then [la] else if tb ≥ 0 then [tb] else []) = p1 := ⟨_, rfl⟩
        rw [hp1] at HT6
        have HP1 := Aside0.mk hp1
        have HPL : Aside0 (p1.length ≤ 1) := ⟨by rw [← hp1]; split; exact Nat.le_refl _; split; exact Nat.le_refl _; exact Nat.zero_le _⟩
        clear hp1
        have hc7 : ∀ j, wc.cell? ⟨g7, j, none⟩ = #[.int .i64 la, .int .i64 tb, .slice Ai ni ci][j]? := fun j => blk_cell HB6.out j
        have hf7 : ∀ j, wc.frozen? ⟨g7, j, none⟩ = false := fun j => blk_frozen HB6.out j
        by_cases k2 : kd = 2
        · subst k2
          go_upto_region 14 with (first | fail)
          clear hc7 hf7
          go_wp2_with (first | fail)
          go_loopg [9] (out.length + 1) (fun kq v9 w' => ∃ (j : Nat), v9 = .int .i64 (j : Int) ∧ Aside0 (out.length - j < kq ∧ j ≤ out.length) ∧ Aside0 (ST w w' (fun g => g = g7) (.slice (some ⟨gf, 0, none⟩) l0.length c3) (.slice (some ⟨g4, 0, none⟩) (L.length + 1) c4) ((fsAt ks i).set i (p1 ++ out.take j)) (L ++ [tS ⟨la, tb, out⟩])) ∧ Aside0 (w'.heap[g7]? = some (.cells #[.int .i64 la, .int .i64 tb, .slice Ai ni ci] 98 (0, 0))) ∧ Aside0 (w'.cell? ⟨g4, L.length * 3 + 2, none⟩ = some (.slice Ai ni ci)))
          case atStart => exact ⟨0, rfl, ⟨by omega, Nat.zero_le _⟩, ⟨by rw [List.take_zero, List.append_nil]; exact HT6.out⟩, HB6, HX6⟩
          case round =>
            clear HT6 HB6 HX6
            obtain ⟨j, rfl, HJ, HT, HB, HX⟩ := hrel
            obtain ⟨gq, cq, vq, hq, ⟨-, -, hy2⟩, -, hRq, hpg, -, -⟩ := HT.out.orow (i := L.length) (by rw [List.length_append]; simp)
            injection hq with q1 q2 q3
            injection q1 with q1
            injection q1 with q1
            subst q1
            have hv : vq = .slice Ai ni ci := Option.some.inj (hy2.symm.trans HX.out)
            subst hv
            rw [snoc_at] at hRq
            replace hRq : Kd.R (Kd.int .i64) 3 wr w.heap.size (fun _ => True) (.slice Ai ni ci) out := hRq
            have hni : ni = out.length := (Kd.R_reads' hRq).1
            have HG47 : Aside0 (g4 ≠ g7) := ⟨fun h => hpg g7 rfl h.symm⟩
            clear q2 q3 hy2 hpg
            by_cases hj : j < out.length
            · have HJT := Aside0.mk hj
              obtain ⟨ga, ca, hga, -⟩ := Kd.R_form hRq (by omega)
              injection hga with e1 e2 e3
              subst e1
              have hoj := (Kd.R_celln (0 : Int) hRq (j : Int) (by omega) (by omega)).1
              rw [Int.toNat_natCast] at hoj
              obtain ⟨y, hy⟩ : ∃ y, rdOf (0 : Int) out (j : Int) = y := ⟨_, rfl⟩
              rw [hy] at hoj
              have HY : Aside0 (out.take j ++ [y] = out.take (j + 1)) := ⟨by rw [← hy]; exact take_rd hj⟩
              have hj2 : (j : Int) < (ni : Int) := by omega
              have hj3 : (j : Int) ≤ 4096 := by have := HO.out; have := HLE.out; have := HLT.out; omega
              clear e2 e3 hRq hni hj hy
              have hc7 : ∀ j, wr.cell? ⟨g7, j, none⟩ = #[.int .i64 la, .int .i64 tb, .slice (some ⟨ga, 0, none⟩) ni ci][j]? := fun j => blk_cell HB.out j
              go_upto_region 17 with (first | fail)
              clear hc7
              have HTd := HT.out.step (below_drew (Below.refl _ _))
              obtain ⟨gq, cq, vr, hq, hrx, hrf, hRr, hput⟩ := HTd.frow (i := i) (by rw [List.length_set, HFL.out]; exact HLT.out)
              injection hq with q1 q2 q3
              injection q1 with q1
              injection q1 with q1
              subst q1
              rw [set_at _ _ _ _ (by rw [HFL.out]; exact HLT.out)] at hRr
              obtain ⟨Ar, nr, cr, rfl⟩ : ∃ A n c, vr = .slice A n c := (by obtain ⟨A, c, h⟩ := Kd.R_slice hRr; exact ⟨A, _, c, h⟩)
              have hrx2 : wr.cell? ⟨gf, i, none⟩ = some (.slice Ar nr cr) := hrx
              have hgl : gf < wr.heap.size := World.block_lt_of_cell? wr _ hrx2
              have h7l : g7 < wr.heap.size := blk_lt HB.out
              have h4l : g4 < wr.heap.size := World.block_lt_of_cell? wr _ HX.out
              have hal : ga < wr.heap.size := World.block_lt_of_cell? wr _ hoj
              have hc7 : ∀ j, wr.cell? ⟨g7, j, none⟩ = #[.int .i64 la, .int .i64 tb, .slice (some ⟨ga, 0, none⟩) ni ci][j]? := fun j => blk_cell HB.out j
              have HRR := Aside0.mk hRr
              have HPUT := Aside0.mk hput
              have HBD := Aside0.mk HTd.below
              have HLR : Aside0 ((p1 ++ out.take j).length ≤ 8388608) := ⟨by rw [List.length_append, List.length_take]; have := HPL.out; have := HO.out; have := HLE.out; have := HLT.out; omega⟩
              clear q2 q3 hrx hrf hRr hput HTd
              apply cut_rest (S := fun A1 n1 c1 w9 => ST w (w9.setCell ⟨gf, i, none⟩ (.slice A1 n1 c1)) (fun g => g = g7) (.slice (some ⟨gf, 0, none⟩) l0.length c3) (.slice (some ⟨g4, 0, none⟩) (L.length + 1) c4) (((fsAt ks i).set i (p1 ++ out.take j)).set i ((p1 ++ out.take j) ++ [y])) (L ++ [tS ⟨la, tb, out⟩]) ∧ (w9.setCell ⟨gf, i, none⟩ (.slice A1 n1 c1)).heap[g7]? = wr.heap[g7]? ∧ (w9.setCell ⟨gf, i, none⟩ (.slice A1 n1 c1)).heap[g4]? = wr.heap[g4]?)
              case' h =>
                intro REST
                go_region_law (refine int_app_step (w := w) rfl (.tmp 79) (.tmp 85) rfl HRR.out HBD.out rfl y rfl HLR.out ?_; intro A1 n1 c1 w1 hR hg hb hat; obtain ⟨p1_, p2, p3, p4⟩ := HPUT.out w1 _ _ hR hg hb hat)
                all_goals exact REST A1 n1 c1 w1 ⟨p1_, p4 g7 (Or.inl rfl) h7l, p4 g4 (Or.inr rfl) h4l⟩
              case r =>
                intro A1 n1 c1 w9 hS
                generalize hwt : World.setCell w9 _ _ = w6 at hS ⊢
                obtain ⟨hS1, hS2, hS3⟩ := hS
                rw [set_set] at hS1
                have HT6 := Aside0.mk hS1
                have HB6 := Aside0.mk (hS2.trans HB.out)
                have HX6 := Aside0.mk ((cell_same hS3).trans HX.out)
                clear hwt hS1 hS2 hS3 hrx2 hgl h7l h4l hal hc7 hoj
                go_wp2_with (first | fail)
                go_roundg (out.length - (j + 1) + 1)
                case measure => have := HJ.out; have := HJT.out; omega
                case rel => exact ⟨j + 1, (by first | exact int_suc j | rw [wrap_ix (by have := HO.out; have := HJT.out; have := HLE.out; have := HLT.out; omega)]), ⟨by have := HJT.out; omega, HJT.out⟩, ⟨by have h := HT6.out; rw [List.append_assoc, HY.out] at h; exact h⟩, HB6, HX6⟩
            · have hje : (j : Int) = (ni : Int) := by have := HJ.out; omega
              have hje2 : ¬ ((j : Int) < (ni : Int)) := by omega
              have hjo : j = out.length := by have := HJ.out; omega
              have HTO : Aside0 (ST w wr (fun g => g = g7) (.slice (some ⟨gf, 0, none⟩) l0.length c3) (.slice (some ⟨g4, 0, none⟩) (L.length + 1) c4) ((fsAt ks i).set i (p1 ++ out)) (L ++ [tS ⟨la, tb, out⟩])) := ⟨by have h := HT.out; rw [List.take_of_length_le (by omega)] at h; exact h⟩
              have hc7 : ∀ j, wr.cell? ⟨g7, j, none⟩ = #[.int .i64 la, .int .i64 tb, .slice Ai ni ci][j]? := fun j => blk_cell HB.out j
              have hf7 : ∀ j, wr.frozen? ⟨g7, j, none⟩ = false := fun j => blk_frozen HB.out j
              clear hjo hni hRq hj HT
              go_upto_region 20 with (first | fail)
              generalize hwt : World.setCell _ _ _ = w7
              have HT7 : Aside0 (ST w w7 (fun g => g = g7) (.slice (some ⟨gf, 0, none⟩) l0.length c3) (.slice (some ⟨g4, 0, none⟩) (L.length + 1) c4) ((fsAt ks i).set i (p1 ++ out)) (L ++ [tS ⟨la, tb, out⟩])) := ⟨by rw [← hwt]; exact (HTO.out.box rfl HG7.out 2 _).box rfl HG7.out 0 _⟩
              have HB7 : Aside0 (w7.heap[g7]? = some (.cells #[.int .i64 (i : Int), .int .i64 tb, .slice none 0 0] 98 (0, 0))) := ⟨by rw [← hwt]; exact blk_set (blk_set HB.out 2 _) 0 _⟩
              have HX7 : Aside0 (w7.cell? ⟨g4, L.length * 3 + 2, none⟩ = some (.slice Ai ni ci)) := ⟨by rw [← hwt]; exact (cell_far (p := ⟨g7, 0, none⟩) (HG47.out) _).trans ((cell_far (p := ⟨g7, 2, none⟩) (HG47.out) _).trans HX.out)⟩
              clear hwt
              clear HTO HB HX hc7 hf7 hje hje2
              obtain ⟨gq, cq, vq, hq, ⟨hy0, hy1, hy2⟩, ⟨hz0, hz1, hz2⟩, -, hpg, hwr, -⟩ := HT7.out.orow (i := L.length) (by rw [List.length_append]; simp)
              injection hq with q1 q2 q3
              injection q1 with q1
              injection q1 with q1
              subst q1
              have HWR := Aside0.mk (hwr (i : Int) tb false)
              have HVQ : Aside0 (vq = .slice Ai ni ci) := ⟨by
                have h := HX7.out
                rw [hy2] at h
                exact Option.some.inj h⟩
              obtain rfl := HVQ.out
              have hc8 : ∀ j, w7.cell? ⟨g7, j, none⟩ = #[.int .i64 (i : Int), .int .i64 tb, .slice none 0 0][j]? := fun j => blk_cell HB7.out j
              clear q2 q3 hpg hwr HVQ
              go_upto_region 21 with (first | fail)
              generalize hwt : World.setCell _ _ _ = w8
              have HT8 : Aside0 (ST w w8 (fun g => g = g7) (.slice (some ⟨gf, 0, none⟩) l0.length c3) (.slice (some ⟨g4, 0, none⟩) (L.length + 1) c4) ((fsAt ks i).set i (p1 ++ out)) (L ++ [⟨(i : Int), tb, []⟩])) := ⟨by
                have h := HWR.out
                simp only [snoc_set, snoc_at, if_true, Bool.false_eq_true, if_false, reduceIte] at h
                rw [hwt] at h
                exact h⟩
              clear hwt HWR HT7 HB7 HX7 hc8 hy0 hy1 hy2 hz0 hz1 hz2
              go_wp2_with (first | fail)
              go_roundg (l0.length - (i + 1) + 1)
              case measure => have := HI.out; have := HLT.out; omega
              case rel => exact ⟨i + 1, _, rfl, (by first | exact int_suc i | rw [wrap_ix (by have := HLE.out; have := HLT.out; omega)]), ⟨by have := HLT.out; omega, HLT.out⟩, ⟨by rw [← fs_next (by rw [HKL.out]; exact HLT.out) HD.out (p := p1 ++ out) (by rw [← HP1.out]; exact (frm_yes (Or.inl HKD.out)).symm), tsAt_sync HD.out HKD.out, HTL.out]; exact HT8.out.mono (fun _ h => h.elim)⟩⟩
        · by_cases k1 : kd = 1
          · subst k1
            clear k2
            go_upto_region 14 with (first | fail)
            clear hc7 hf7
            go_wp2_with (first | fail)
            go_loopg [9] (out.length + 1) (fun kq v9 w' => ∃ (j : Nat), v9 = .int .i64 (j : Int) ∧ Aside0 (out.length - j < kq ∧ j ≤ out.length) ∧ Aside0 (ST w w' (fun g => g = g7) (.slice (some ⟨gf, 0, none⟩) l0.length c3) (.slice (some ⟨g4, 0, none⟩) (L.length + 1) c4) ((fsAt ks i).set i (p1 ++ out.take j)) (L ++ [tS ⟨la, tb, out⟩])) ∧ Aside0 (w'.heap[g7]? = some (.cells #[.int .i64 la, .int .i64 tb, .slice Ai ni ci] 98 (0, 0))) ∧ Aside0 (w'.cell? ⟨g4, L.length * 3 + 2, none⟩ = some (.slice Ai ni ci)))
            case atStart => exact ⟨0, rfl, ⟨by omega, Nat.zero_le _⟩, ⟨by rw [List.take_zero, List.append_nil]; exact HT6.out⟩, HB6, HX6⟩
            case round =>
              clear HT6 HB6 HX6
              obtain ⟨j, rfl, HJ, HT, HB, HX⟩ := hrel
              obtain ⟨gq, cq, vq, hq, ⟨-, -, hy2⟩, -, hRq, hpg, -, -⟩ := HT.out.orow (i := L.length) (by rw [List.length_append]; simp)
              injection hq with q1 q2 q3
              injection q1 with q1
              injection q1 with q1
              subst q1
              have hv : vq = .slice Ai ni ci := Option.some.inj (hy2.symm.trans HX.out)
              subst hv
              rw [snoc_at] at hRq
              replace hRq : Kd.R (Kd.int .i64) 3 wr w.heap.size (fun _ => True) (.slice Ai ni ci) out := hRq
              have hni : ni = out.length := (Kd.R_reads' hRq).1
              have HG47 : Aside0 (g4 ≠ g7) := ⟨fun h => hpg g7 rfl h.symm⟩
              clear q2 q3 hy2 hpg
              by_cases hj : j < out.length
              · have HJT := Aside0.mk hj
                obtain ⟨ga, ca, hga, -⟩ := Kd.R_form hRq (by omega)
                injection hga with e1 e2 e3
                subst e1
                have hoj := (Kd.R_celln (0 : Int) hRq (j : Int) (by omega) (by omega)).1
                rw [Int.toNat_natCast] at hoj
                obtain ⟨y, hy⟩ : ∃ y, rdOf (0 : Int) out (j : Int) = y := ⟨_, rfl⟩
                rw [hy] at hoj
                have HY : Aside0 (out.take j ++ [y] = out.take (j + 1)) := ⟨by rw [← hy]; exact take_rd hj⟩
                have hj2 : (j : Int) < (ni : Int) := by omega
                have hj3 : (j : Int) ≤ 4096 := by have := HO.out; have := HLE.out; have := HLT.out; omega
                clear e2 e3 hRq hni hj hy
                have hc7 : ∀ j, wr.cell? ⟨g7, j, none⟩ = #[.int .i64 la, .int .i64 tb, .slice (some ⟨ga, 0, none⟩) ni ci][j]? := fun j => blk_cell HB.out j
                go_upto_region 17 with (first | fail)
                clear hc7
                have HTd := HT.out.step (below_drew (Below.refl _ _))
                obtain ⟨gq, cq, vr, hq, hrx, hrf, hRr, hput⟩ := HTd.frow (i := i) (by rw [List.length_set, HFL.out]; exact HLT.out)
                injection hq with q1 q2 q3
                injection q1 with q1
                injection q1 with q1
                subst q1
                rw [set_at _ _ _ _ (by rw [HFL.out]; exact HLT.out)] at hRr
                obtain ⟨Ar, nr, cr, rfl⟩ : ∃ A n c, vr = .slice A n c := (by obtain ⟨A, c, h⟩ := Kd.R_slice hRr; exact ⟨A, _, c, h⟩)
                have hrx2 : wr.cell? ⟨gf, i, none⟩ = some (.slice Ar nr cr) := hrx
                have hgl : gf < wr.heap.size := World.block_lt_of_cell? wr _ hrx2
                have h7l : g7 < wr.heap.size := blk_lt HB.out
                have h4l : g4 < wr.heap.size := World.block_lt_of_cell? wr _ HX.out
                have hal : ga < wr.heap.size := World.block_lt_of_cell? wr _ hoj
                have hc7 : ∀ j, wr.cell? ⟨g7, j, none⟩ = #[.int .i64 la, .int .i64 tb, .slice (some ⟨ga, 0, none⟩) ni ci][j]? := fun j => blk_cell HB.out j
                have HRR := Aside0.mk hRr
                have HPUT := Aside0.mk hput
                have HBD := Aside0.mk HTd.below
                have HLR : Aside0 ((p1 ++ out.take j).length ≤ 8388608) := ⟨by rw [List.length_append, List.length_take]; have := HPL.out; have := HO.out; have := HLE.out; have := HLT.out; omega⟩
                clear q2 q3 hrx hrf hRr hput HTd
                apply cut_rest (S := fun A1 n1 c1 w9 => ST w (w9.setCell ⟨gf, i, none⟩ (.slice A1 n1 c1)) (fun g => g = g7) (.slice (some ⟨gf, 0, none⟩) l0.length c3) (.slice (some ⟨g4, 0, none⟩) (L.length + 1) c4) (((fsAt ks i).set i (p1 ++ out.take j)).set i ((p1 ++ out.take j) ++ [y])) (L ++ [tS ⟨la, tb, out⟩]) ∧ (w9.setCell ⟨gf, i, none⟩ (.slice A1 n1 c1)).heap[g7]? = wr.heap[g7]? ∧ (w9.setCell ⟨gf, i, none⟩ (.slice A1 n1 c1)).heap[g4]? = wr.heap[g4]?)
                case' h =>
                  intro REST
                  go_region_law (refine int_app_step (w := w) rfl (.tmp 79) (.tmp 85) rfl HRR.out HBD.out rfl y rfl HLR.out ?_; intro A1 n1 c1 w1 hR hg hb hat; obtain ⟨p1_, p2, p3, p4⟩ := HPUT.out w1 _ _ hR hg hb hat)
                  all_goals exact REST A1 n1 c1 w1 ⟨p1_, p4 g7 (Or.inl rfl) h7l, p4 g4 (Or.inr rfl) h4l⟩
                case r =>
                  intro A1 n1 c1 w9 hS
                  generalize hwt : World.setCell w9 _ _ = w6 at hS ⊢
                  obtain ⟨hS1, hS2, hS3⟩ := hS
                  rw [set_set] at hS1
                  have HT6 := Aside0.mk hS1
                  have HB6 := Aside0.mk (hS2.trans HB.out)
                  have HX6 := Aside0.mk ((cell_same hS3).trans HX.out)
                  clear hwt hS1 hS2 hS3 hrx2 hgl h7l h4l hal hc7 hoj
                  go_wp2_with (first | fail)
                  go_roundg (out.length - (j + 1) + 1)
                  case measure => have := HJ.out; have := HJT.out; omega
                  case rel => exact ⟨j + 1, (by first | exact int_suc j | rw [wrap_ix (by have := HO.out; have := HJT.out; have := HLE.out; have := HLT.out; omega)]), ⟨by have := HJT.out; omega, HJT.out⟩, ⟨by have h := HT6.out; rw [List.append_assoc, HY.out] at h; exact h⟩, HB6, HX6⟩
              · have hje : (j : Int) = (ni : Int) := by have := HJ.out; omega
                have hje2 : ¬ ((j : Int) < (ni : Int)) := by omega
                have hjo : j = out.length := by have := HJ.out; omega
                have HTO : Aside0 (ST w wr (fun g => g = g7) (.slice (some ⟨gf, 0, none⟩) l0.length c3) (.slice (some ⟨g4, 0, none⟩) (L.length + 1) c4) ((fsAt ks i).set i (p1 ++ out)) (L ++ [tS ⟨la, tb, out⟩])) := ⟨by have h := HT.out; rw [List.take_of_length_le (by omega)] at h; exact h⟩
                have hc7 : ∀ j, wr.cell? ⟨g7, j, none⟩ = #[.int .i64 la, .int .i64 tb, .slice Ai ni ci][j]? := fun j => blk_cell HB.out j
                have hf7 : ∀ j, wr.frozen? ⟨g7, j, none⟩ = false := fun j => blk_frozen HB.out j
                clear hjo hni hRq hj HT
                go_upto_region 20 with (first | fail)
                generalize hwt : World.setCell _ _ _ = w7
                have HT7 : Aside0 (ST w w7 (fun g => g = g7) (.slice (some ⟨gf, 0, none⟩) l0.length c3) (.slice (some ⟨g4, 0, none⟩) (L.length + 1) c4) ((fsAt ks i).set i (p1 ++ out)) (L ++ [tS ⟨la, tb, out⟩])) := ⟨by rw [← hwt]; exact (HTO.out.box rfl HG7.out 2 _).box rfl HG7.out 0 _⟩
                have HB7 : Aside0 (w7.heap[g7]? = some (.cells #[.int .i64 (i : Int), .int .i64 tb, .slice none 0 0] 98 (0, 0))) := ⟨by rw [← hwt]; exact blk_set (blk_set HB.out 2 _) 0 _⟩
                have HX7 : Aside0 (w7.cell? ⟨g4, L.length * 3 + 2, none⟩ = some (.slice Ai ni ci)) := ⟨by rw [← hwt]; exact (cell_far (p := ⟨g7, 0, none⟩) (HG47.out) _).trans ((cell_far (p := ⟨g7, 2, none⟩) (HG47.out) _).trans HX.out)⟩
                clear hwt
                clear HTO HB HX hc7 hf7 hje hje2
                obtain ⟨gq, cq, vq, hq, ⟨hy0, hy1, hy2⟩, ⟨hz0, hz1, hz2⟩, -, hpg, hwr, -⟩ := HT7.out.orow (i := L.length) (by rw [List.length_append]; simp)
                injection hq with q1 q2 q3
                injection q1 with q1
                injection q1 with q1
                subst q1
                have HWR := Aside0.mk (hwr (i : Int) tb false)
                have HVQ : Aside0 (vq = .slice Ai ni ci) := ⟨by
                  have h := HX7.out
                  rw [hy2] at h
                  exact Option.some.inj h⟩
                obtain rfl := HVQ.out
                have hc8 : ∀ j, w7.cell? ⟨g7, j, none⟩ = #[.int .i64 (i : Int), .int .i64 tb, .slice none 0 0][j]? := fun j => blk_cell HB7.out j
                clear q2 q3 hpg hwr HVQ
                go_upto_region 21 with (first | fail)
                generalize hwt : World.setCell _ _ _ = w8
                have HT8 : Aside0 (ST w w8 (fun g => g = g7) (.slice (some ⟨gf, 0, none⟩) l0.length c3) (.slice (some ⟨g4, 0, none⟩) (L.length + 1) c4) ((fsAt ks i).set i (p1 ++ out)) (L ++ [⟨(i : Int), tb, []⟩])) := ⟨by
                  have h := HWR.out
                  simp only [snoc_set, snoc_at, if_true, Bool.false_eq_true, if_false, reduceIte] at h
                  rw [hwt] at h
                  exact h⟩
                clear hwt HWR HT7 HB7 HX7 hc8 hy0 hy1 hy2 hz0 hz1 hz2
                have hlen : 2 ≤ (frs ks i).length := by
                  have h := HFA.out i (by rw [kds_len]; exact HLT.out)
                  rw [HKS.out] at h
                  exact h HKD.out
                obtain ⟨g, u2, hu⟩ : ∃ g u2, u = g :: u2 := by
                  cases u with
                  | nil =>
                    have h1 := dts_len ks i
                    rw [HD.out] at h1
                    simp only [List.length_cons, List.length_nil] at h1
                    omega
                  | cons g u2 => exact ⟨g, u2, rfl⟩
                subst hu
                obtain ⟨L2, hL2⟩ : ∃ L2, u2.reverse.map tS = L2 := ⟨_, rfl⟩
                have hLL : L2 ++ [tS g] = L := by rw [← HTL.out, List.reverse_cons, List.map_append, hL2]; rfl
                subst hLL
                have HL2 := Aside0.mk hL2
                have HOG : Aside0 (g.out.length ≤ i) := ⟨dts_out ks i g (by rw [HD.out]; exact List.mem_cons_of_mem _ List.mem_cons_self)⟩
                have HT9 : Aside0 (ST w w8 (fun g => g = g7) (.slice (some ⟨gf, 0, none⟩) l0.length c3) (.slice (some ⟨g4, 0, none⟩) (L2.length + 1) c4) ((fsAt ks i).set i (p1 ++ out)) (L2 ++ [tS g])) := ⟨by
                  have h := HT8.out.otake (m := (L2 ++ [tS g]).length) (len_le_snoc _ _)
                  rw [List.take_left'] at h
                  · rw [List.length_append, List.length_singleton] at h; exact h
                  · rfl⟩
                have hcap : L2.length + 1 + 1 ≤ c4 := by
                  obtain ⟨okF, okO, -, h2, -, -⟩ := HT8.out.ex
                  have := (Kd.S_reads' h2).2.1
                  rw [List.length_append, List.length_singleton] at this
                  exact this
                have hcap2 : (L2.length : Int) + 1 ≤ (c4 : Int) := by omega
                have hcap3 : L2.length + 1 ≤ c4 := by omega
                clear hL2 hlen hcap HT8
                obtain ⟨gq, cq, vq, hq, ⟨hy0, hy1, hy2⟩, ⟨hz0, hz1, hz2⟩, hRg, -, -, hput⟩ := HT9.out.orow (i := L2.length) (by rw [List.length_append]; simp)
                injection hq with q1 q2 q3
                injection q1 with q1
                injection q1 with q1
                subst q1
                rw [snoc_at] at hRg
                replace hRg : Kd.R (Kd.int .i64) 3 w8 w.heap.size (fun _ => True) vq g.out := hRg
                obtain ⟨Ag, ng, cg, rfl⟩ : ∃ A n c, vq = .slice A n c := (by obtain ⟨A, c, h⟩ := Kd.R_slice hRg; exact ⟨A, _, c, h⟩)
                have HRG := Aside0.mk hRg
                have HPUT := Aside0.mk hput
                have hnn : (0 : Int) ≤ (L2.length : Int) := by omega
                have hnn2 : (L2.length : Int) < (L2.length : Int) + 1 := by omega
                have hnn3 : (L2.length : Int) ≤ 4096 := by have := HUL.out.2; rw [List.length_append] at this; have := HLE.out; have := HLT.out; omega
                clear q2 q3 hRg hput
                go_wp2_with (first | ((with_reducible refine gate_builtin (b := .append) (xs := #[.tmp 115, .tmp 117]) rfl ?_); at_builtin; refine int_app (w := w) rfl (.tmp 115) (.tmp 117) rfl HRG.out HT9.out.below rfl (i : Int) rfl (by have := HOG.out; have := HLE.out; have := HLT.out; omega) ?_; intro A1 n1 c1 w1 hR hg hb hat; obtain ⟨r1, r2, r3⟩ := HPUT.out w1 _ _ hR hg hb hat; have HT10 := Aside0.mk r1; clear r1 hR hg hb hat))
                generalize hwt : World.setCell _ _ _ = w10
                rw [hwt] at HT10
                simp only [snoc_set, snoc_at] at HT10
                go_roundg (l0.length - (i + 1) + 1)
                case measure => have := HI.out; have := HLT.out; omega
                case rel => exact ⟨i + 1, _, rfl, (by first | exact int_suc i | rw [wrap_ix (by have := HLE.out; have := HLT.out; omega)]), ⟨by have := HLT.out; omega, HLT.out⟩, ⟨by rw [← fs_next (by rw [HKL.out]; exact HLT.out) HD.out (p := p1 ++ out) (by rw [← HP1.out]; exact (frm_yes (Or.inr HKD.out)).symm), tsAt_ret HD.out HKD.out, HL2.out]; exact HT10.out.mono (fun _ h => h.elim)⟩⟩
          · have K2 := Aside0.mk k2
            have K1 := Aside0.mk k1
            have k2b : (kd == 2) = false := beq_eq_false_iff_ne.mpr k2
            have k1b : (kd == 1) = false := beq_eq_false_iff_ne.mpr k1
            clear k2 k1
            have HG47 : Aside0 (g4 ≠ g7) := ⟨fun h => by obtain ⟨gq, cq, vq, hq, -, -, -, hpg, -, -⟩ := HT6.out.orow (i := L.length) (by rw [List.length_append]; simp); injection hq with q1 q2 q3; injection q1 with q1; injection q1 with q1; exact hpg g7 rfl (by rw [← q1]; exact h.symm)⟩
            go_upto_region 20 with (first | fail)
            generalize hwt : World.setCell _ _ _ = w7
            have HT7 : Aside0 (ST w w7 (fun g => g = g7) (.slice (some ⟨gf, 0, none⟩) l0.length c3) (.slice (some ⟨g4, 0, none⟩) (L.length + 1) c4) ((fsAt ks i).set i p1) (L ++ [tS ⟨la, tb, out⟩])) := ⟨by rw [← hwt]; exact HT6.out.box rfl HG7.out 0 _⟩
            have HB7 : Aside0 (w7.heap[g7]? = some (.cells #[.int .i64 (i : Int), .int .i64 tb, .slice Ai ni ci] 98 (0, 0))) := ⟨by rw [← hwt]; exact blk_set HB6.out 0 _⟩
            have HX7 : Aside0 (w7.cell? ⟨g4, L.length * 3 + 2, none⟩ = some (.slice Ai ni ci)) := ⟨by rw [← hwt]; exact (cell_far (p := ⟨g7, 0, none⟩) (HG47.out) _).trans HX6.out⟩
            clear hwt
            clear HT6 HB6 HX6 hc7 hf7

            obtain ⟨gq, cq, vq, hq, ⟨hy0, hy1, hy2⟩, ⟨hz0, hz1, hz2⟩, -, hpg, hwr, -⟩ := HT7.out.orow (i := L.length) (by rw [List.length_append]; simp)
            injection hq with q1 q2 q3
            injection q1 with q1
            injection q1 with q1
            subst q1
            have HWR := Aside0.mk (hwr (i : Int) tb true)
            have HVQ : Aside0 (vq = .slice Ai ni ci) := ⟨by
              have h := HX7.out
              rw [hy2] at h
              exact Option.some.inj h⟩
            obtain rfl := HVQ.out
            have hc8 : ∀ j, w7.cell? ⟨g7, j, none⟩ = #[.int .i64 (i : Int), .int .i64 tb, .slice Ai ni ci][j]? := fun j => blk_cell HB7.out j
            clear q2 q3 hpg hwr HVQ
            go_upto_region 21 with (first | fail)
            generalize hwt : World.setCell _ _ _ = w8
            have HT8 : Aside0 (ST w w8 (fun g => g = g7) (.slice (some ⟨gf, 0, none⟩) l0.length c3) (.slice (some ⟨g4, 0, none⟩) (L.length + 1) c4) ((fsAt ks i).set i p1) (L ++ [⟨(i : Int), tb, out⟩])) := ⟨by
              have h := HWR.out
              simp only [snoc_set, snoc_at, if_true, Bool.false_eq_true, if_false, reduceIte] at h
              rw [hwt] at h
              exact h⟩
            clear hwt HWR HT7 HB7 HX7 hc8 hy0 hy1 hy2 hz0 hz1 hz2
            by_cases k0 : kd = 0
            · subst k0
              go_wp2_with (first | ((with_reducible refine gate_builtin (b := .append) (xs := #[.tmp 97, .tmp 100]) rfl ?_); at_builtin; refine ste_push (w := w) rfl (.tmp 97) (.tmp 100) rfl HT8.out rfl (i : Int) rfl (by rw [List.length_append, List.length_singleton]; have := HUL.out; have := HLE.out; have := HLT.out; omega) ?_; intro A9 n9 c9 w9 hP; have HT9 := Aside0.mk hP; clear hP))

              go_roundg (l0.length - (i + 1) + 1)
              case measure => have := HI.out; have := HLT.out; omega
              case rel => exact ⟨i + 1, _, rfl, (by first | exact int_suc i | rw [wrap_ix (by have := HLE.out; have := HLT.out; omega)]), ⟨by have := HLT.out; omega, HLT.out⟩, ⟨by rw [← fs_next (by rw [HKL.out]; exact HLT.out) HD.out (p := p1) (by rw [← HP1.out]; exact (frm_no HKD.out (by decide) (by decide)).symm), tsAt_spawn HD.out HKD.out, HTL.out]; exact HT9.out.mono (fun _ h => h.elim)⟩⟩
            · have K0 := Aside0.mk k0
              have k0b : (kd == 0) = false := beq_eq_false_iff_ne.mpr k0
              clear k0
              go_wp2_with (first | fail)

              go_roundg (l0.length - (i + 1) + 1)
              case measure => have := HI.out; have := HLT.out; omega
              case rel => exact ⟨i + 1, _, rfl, (by first | exact int_suc i | rw [wrap_ix (by have := HLE.out; have := HLT.out; omega)]), ⟨by have := HLT.out; omega, HLT.out⟩, ⟨by rw [← fs_next (by rw [HKL.out]; exact HLT.out) HD.out (p := p1) (by rw [← HP1.out]; exact (frm_no HKD.out K1.out K2.out).symm), tsAt_other HD.out (HKD.out ▸ K0.out) (HKD.out ▸ K1.out) (HKD.out ▸ K2.out), HTL.out]; exact HT8.out.mono (fun _ h => h.elim)⟩⟩
    · have hie : i = l0.length := by have := HI.out; omega
      have hge : ¬ ((i : Int) < (l0.length : Int)) := by omega
      have HIE := Aside0.mk hie
      clear hie hlt
      go_wp2_with (first | fail)
      go_ret
      obtain ⟨okF, okO, h1, -, -, -⟩ := HT.out.ex
      rw [show i = ks.length by rw [HKL.out]; exact HIE.out, fsAt_full] at h1
      exact ⟨_, rfl, Kd.S_mono h1 (fun _ _ => trivial), HT.out.below⟩
end Go.Proofs.Ytkecgjmbamaejaa.P
