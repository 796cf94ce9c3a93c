/- races.walk: it answers a map that tells for each place with a race its first racy deed. -/
import Derived.Test.YtkecgjmbamaejaaPARF
import Derived.Test.YtkecgjmbamaejaaPARD
import Derived.BigRegion
import Derived.Carry
import Derived.Deep.RegionHeld3
import Derived.Deep.RegionLaw
namespace Go.Proofs.Ytkecgjmbamaejaa.P
open Go.RowKit Go.Maps Go.Proofs.YtkecgjmbamaejaaW.PrintWords Go.Proofs.YtkecgjmbamaejaaW.PrintLast Go.Proofs.YtkecgjmbamaejaaW.PrintMore
set_option linter.unusedVariables false
set_option linter.unusedSimpArgs false
set_option maxHeartbeats 1000000
set_option maxRecDepth 100000
structure WalkPost (l : List S52) (w : World) (e : Ending) (w' : World) : Prop where
  ex : ∃ (b nf : Nat) (F : Int → Option Nat), e = .returned (.map (some b)) ∧ (∃ D : DataW Unit, w'.ownsMap Try.prog 2 (plainElem Try.prog 3) b nf D ∧ FM (fun j : Nat => .lit (.int .i64 (j : Int))) D F) ∧
    (∀ loc j, F loc = some j → FirstAt (kdsOf l) (lcsOf l) l.length loc j) ∧ (∀ loc, F loc = none → ∀ j, j < l.length → (lcsOf l).getD j 0 = loc → ¬ Racy (kdsOf l) (lcsOf l) j) ∧ nf ≤ 4096 ∧ w.heap.size ≤ b
  below : Below w.heap.size w w'
theorem walk_calls (A0 : Option Addr) (c0 : Nat) (l0 : List S52) (w : World) (hr0 : Kd.C k52 w A0 l0.length l0) (hc0 : l0.length ≤ c0) (hl0 : l0.length ≤ 4096) (hfair : fair (kdsOf l0)) (hkd : ∀ j, j < l0.length → 0 ≤ (kdsOf l0).getD j 0 ∧ (kdsOf l0).getD j 0 ≤ 4) (hwf : ∀ j, j < l0.length → (Lit.int .i64 ((lcsOf l0).getD j 0)).wf = true) :
    Calls Try.prog 46 #[.slice A0 l0.length c0] w (WalkPost l0 w) := by
  have HC := Aside0.mk hr0
  have HFR := Aside0.mk (And.intro hfair (And.intro hkd hwf))
  clear hr0 hfair hkd hwf
  go_enter Try.func46, Try.ntmps46
  go_upto_region 2 with (first | fail)
  have HB0 : Aside0 (Rts w (w.alloc (.cells #[.slice none 0 0, .slice none 0 0] 80)) w.heap.size (.slice none 0 0) (.slice none 0 0) 0 [] (fun z => z)) := ⟨Rts.new w⟩
  generalize hwt : World.alloc w _ = w1 at HB0 ⊢
  obtain ⟨gb, hgb⟩ : ∃ g, w.heap.size = g := ⟨_, rfl⟩
  rw [hgb] at HB0 ⊢
  clear hwt hgb
  go_upto_region 3 with (first | (go_at_call 56; (with_reducible refine (Rts.add HB0.out rfl (by omega)).mono ?_); rintro e_ w2 ⟨rfl, vu, vs, h1, h2⟩; have HR := Aside0.mk h1; clear HB0 h1 h2))
  have HO : Aside0 (OR (w2.alloc (.cells #[.int .i64 0, .int .i64 (-1)] 83)) w.heap.size (.slice (some ⟨w2.heap.size, 0, none⟩) 1 1) [⟨0, -1⟩]) := ⟨OR.new (below_size HR.out.b) ⟨0, -1⟩⟩
  have HR1 : Aside0 (Rts w (w2.alloc (.cells #[.int .i64 0, .int .i64 (-1)] 83)) gb vu vs (0 + 1) ([] ++ [false]) (fun z => if z < 0 then z else z)) := ⟨HR.out.step (below_alloc (Below.refl _ _) _)⟩
  generalize hwt : World.alloc w2 _ = w3 at HO HR1 ⊢
  obtain ⟨go, hgo⟩ : ∃ g, w2.heap.size = g := ⟨_, rfl⟩
  rw [hgo] at HO ⊢
  clear hwt hgo HR
  have hmm := @run_makeMap Try.prog
  go_upto_block 0 with (first | fail)
  clear hmm
  have hbl : Below w3.heap.size w3 ((w3.alloc (.map #[] 0)).alloc (.map #[] 0)) := below_alloc (below_alloc (Below.refl _ _) _) _
  have HS : Aside0 (WB w ((w3.alloc (.map #[] 0)).alloc (.map #[] 0)) gb w3.heap.size (w3.heap.size + 1) (0 + 1) 0 0 vu vs (.slice (some ⟨go, 0, none⟩) 1 1) ([] ++ [false]) (fun z => if z < 0 then z else z) [⟨0, -1⟩] (fun _ => none) (fun _ => none) []) :=
    ⟨⟨HR1.out.step hbl, HO.out.block (fun k hk => hbl.block k (own_lt HO.out k hk)), TwoMaps.new w3, below_step HR1.out.b hbl, rfl⟩, ⟨below_step HR1.out.b hbl, fun b h => (List.not_mem_nil h).elim, fun b h => (List.not_mem_nil h).elim, List.Pairwise.nil⟩, fun b h => (List.not_mem_nil h).elim⟩
  have HBS : Aside0 (w.heap.size ≤ w3.heap.size) := ⟨below_size HR1.out.b⟩
  have ert : (fun z => if z < 0 then z else z) = (fun z : Nat => z) := funext fun z => if_neg (Nat.not_lt_zero z)
  rw [ert] at HS
  generalize hwt : World.alloc (World.alloc w3 _) _ = w4 at HS ⊢
  obtain ⟨bs, hbs⟩ : ∃ b, w3.heap.size = b := ⟨_, rfl⟩
  rw [hbs] at HS HBS ⊢
  obtain ⟨bf, hbf⟩ : ∃ b, bs + 1 = b := ⟨_, rfl⟩
  rw [hbf] at HS ⊢
  have HBF : Aside0 (w.heap.size ≤ bs ∧ w.heap.size ≤ bf ∧ bs ≠ bf) := ⟨HBS.out, by have := HBS.out; omega, by omega⟩
  clear hwt hbs hbf hbl HO HR1 ert HBS
  have hu52 := Try.underlying52
  have hu83 := Try.underlying83
  have hu84 := Try.underlying84
  have hu86 := Try.underlying86
  have hu91 := Try.underlying91
  go_wp2_with (first | fail)
  go_loopg [4, 24] (l0.length + 1) (fun kq v4 v24 w' => ∃ (i n ns nf n2 go co : Nat) (vu vs : Value) (side : List Bool) (rt : Nat → Nat) (ts : List S83) (T : Int → Option (Int × Int)) (F : Int → Option Nat),
    v4 = .slice (some ⟨go, 0, none⟩) n2 co ∧ v24 = .int .i64 (i : Int) ∧ Aside0 (l0.length - i < kq ∧ i ≤ l0.length) ∧ Aside0 (PI (kdsOf l0) (lcsOf l0) i n ns nf n2 side rt ts T F) ∧ Aside0 (WB w w' gb bs bf n ns nf vu vs (.slice (some ⟨go, 0, none⟩) n2 co) side rt ts T F []))
  case atStart => exact ⟨0, 1, 0, 0, 1, go, 1, vu, vs, [false], _, _, _, _, rfl, rfl, ⟨by omega, by omega⟩, ⟨PI.zero _ _⟩, HS⟩
  case round =>
    clear HS vu vs
    obtain ⟨i, n, ns, nf, n2, go, co, vu, vs, side, rt, ts, T, F, rfl, rfl, HI, HP, HS⟩ := hrel
    by_cases hlt : i < l0.length
    · have hlt2 : (i : Int) < (l0.length : Int) := by omega
      have hi4 : (i : Int) ≤ 4096 := by omega
      have HLT := Aside0.mk hlt
      obtain ⟨ad, rfl, hx, hx1⟩ := at_T52 (Kd.C_below HC.out HS.out.S.B) (i : Int) (by omega) hlt2
      rw [Int.toNat_natCast] at hx hx1
      have HKD := kds_at l0 i hlt
      have HLC := lcs_at l0 i hlt
      obtain ⟨kd, hkd⟩ : ∃ kd, (rd_T52 l0 (i : Int)).f0 = kd := ⟨_, rfl⟩
      obtain ⟨lc, hlc⟩ : ∃ lc, (rd_T52 l0 (i : Int)).f1 = lc := ⟨_, rfl⟩
      rw [hkd] at hx HKD
      rw [hlc] at hx1 HLC
      have HK := Aside0.mk HKD
      have HL := Aside0.mk HLC
      clear hkd hlc hlt HKD HLC
      obtain ⟨m, t, hm, ht, htk, htr⟩ := HP.out.top
      have HT := Aside0.mk (And.intro hm (And.intro ht htk))
      have q1 : (n2 : Int) - 1 = (m : Int) := by omega
      have q3 : (m : Int) < (n2 : Int) := by omega
      have q5 : (n2 : Int) ≤ 8388608 := by have := HP.out.n2_le; omega
      clear hm ht htk htr
      go_upto_region 8 with (first | ((with_reducible refine gate_dst (N := 8) rfl ?_); (try (refine gate_guard (by rfl) ?_; dsimp only)); refine box_WB (by repeat (first | exact HS.out | refine WB.drew ?_ | refine WB.drewN ?_ _)) ?hg (N := 8) ?hd (cs := #[.int .i64 0, .int .i64 0]) (t := 52) ?hr ?_; (case hd => rfl); (case hg => rfl); (case hr => first | (go_simp; done) | (go_simp; rfl)); intro g8 wb2 HLn; clear HS; have HS := HLn; clear HLn; (try clear hf); have hf := HS.out.C.facts; simp only [factsOf, List.cons_append, List.nil_append] at hf; skip))
      generalize hwt : World.setCell _ _ _ = w5
      have HSn : Aside0 (WB w w5 gb bs bf n ns nf vu vs (.slice (some ⟨go, 0, none⟩) n2 co) side rt ts T F [(g8, #[.int .i64 kd, .int .i64 lc], 52)]) := ⟨by rw [← hwt]; exact (HS.out.set 0 rfl 0 _).set 0 rfl 1 _⟩
      clear HS hwt hx hx1; have HS := HSn; clear HSn; (try clear hf); have hf := HS.out.C.facts; simp only [factsOf, List.cons_append, List.nil_append] at hf; skip
      have HNB : Aside0 (n ≤ 8388600) := ⟨by have := HP.out.n_le; omega⟩
      have hkr : 0 ≤ kd ∧ kd ≤ 4 := by have := HFR.out.2.1 i HLT.out; rwa [HK.out] at this
      have hcases : kd = 0 ∨ kd = 1 ∨ kd = 2 ∨ kd = 3 ∨ kd = 4 := by omega
      clear hkr
      rcases hcases with k0 | k1 | k2 | k3 | k4
      · subst k0
        go_wp2_with (first | (go_at_call 56; have hcall := HS.out.S.add HNB.out; (with_reducible refine hcall.mono ?_); clear hcall; rintro e_ w6 ⟨rfl, vu', vs', hS_, hk_⟩; have HSn := Aside0.mk (HS.out.turn hS_ hk_); clear HS hS_ hk_; have HS := HSn; clear HSn; (try clear hf); have hf := HS.out.C.facts; simp only [factsOf, List.cons_append, List.nil_append] at hf; skip) | ((with_reducible refine gate_builtin (b := .append) (xs := #[.tmp 100, .tmp 104]) rfl ?_); at_builtin; refine wb_app HS.out rfl (.tmp 100) (.tmp 104) rfl rfl ⟨(n : Int), -1⟩ rfl (by have := HP.out.hl; omega) ?_; intro g_ c_ w7 HSn_; clear HS; have HS := Aside0.mk HSn_; clear HSn_; (try clear hf); have hf := HS.out.C.facts; simp only [factsOf, List.cons_append, List.nil_append] at hf; skip))
        go_roundg (l0.length - (i + 1) + 1)
        case measure => have := HI.out; have := HLT.out; omega
        case rel =>
          refine ⟨i + 1, n + 1, ns, nf, ts.length + 1, g_, c_, vu', vs', _, _, _, T, F, rfl, (by first | rfl | rw [wrap_ix (by have := HLT.out; omega)] | simp), ⟨by omega, by have := HLT.out; omega⟩, ⟨?_⟩, ⟨HS.out.sub (List.nil_sublist _)⟩⟩
          have e := HP.out.spawn HK.out
          rw [← HP.out.hl] at e
          exact e
      · subst k1
        obtain ⟨m2, x, u, c, e1, hu, hc, hxx, hxn, b1, b2⟩ := HP.out.back HFR.out.1 (by rw [kds_len]; exact HLT.out) HK.out
        obtain ⟨-, -, -, hub, -⟩ := HP.out.recd hu
        obtain ⟨-, -, -, hcb, -⟩ := HP.out.recd hc
        have HBK := Aside0.mk (And.intro e1 (And.intro hu (And.intro hc (And.intro hxx (And.intro hxn (And.intro hcb hub))))))
        have HB12 := Aside0.mk (And.intro b1 b2)
        clear e1 hu hc hxx hxn b1 b2 hub hcb
        go_wp2_with (first | (go_at_call 57; have hcall := HS.out.S.back HP.out.hl HBK.out.1 rfl HBK.out.2.1 HBK.out.2.2.1 HBK.out.2.2.2.1 HBK.out.2.2.2.2.1 HBK.out.2.2.2.2.2.1 HBK.out.2.2.2.2.2.2 (by have := HNB.out; omega) (by have := HP.out.n2_le; have := HLT.out; omega); (with_reducible refine hcall.mono ?_); clear hcall; rintro e_ w6 ⟨rfl, hk_, hc_⟩; have HE : Aside0 (∃ side' rt' ts', PI (kdsOf l0) (lcsOf l0) (i + 1) n ns nf (m2 + 1) side' rt' ts' T F ∧ WB w w6 gb bs bf n ns nf vu vs (.slice (some ⟨go, 0, none⟩) (m2 + 1) co) side' rt' ts' T F [(g8, #[.int .i64 1, .int .i64 lc], 52)]) := ⟨(hc_.elim (fun hc_ => ⟨_, _, _, HB12.out.1 hc_.1, HS.out.turn hc_.2 hk_⟩) (fun hc_ => ⟨_, _, _, HB12.out.2 hc_.1, HS.out.turn hc_.2 hk_⟩))⟩; clear hc_ hk_ HS; (try clear hf)))
        obtain ⟨side', rt', ts', hP', hS'⟩ := HE.out
        have HS := Aside0.mk hS'
        have HPP := Aside0.mk hP'
        clear HE hS' hP'
        go_roundg (l0.length - (i + 1) + 1)
        case measure => have := HI.out; have := HLT.out; omega
        case rel =>
          refine ⟨i + 1, n, ns, nf, m2 + 1, go, co, vu, vs, side', rt', ts', T, F, rfl, (by first | rfl | rw [wrap_ix (by have := HLT.out; omega)] | simp), ⟨by omega, by have := HLT.out; omega⟩, ⟨?_⟩, ⟨HS.out.sub (List.nil_sublist _)⟩⟩
          exact HPP.out
      · subst k2
        obtain ⟨x, hxx, hxn, hbn, hb1⟩ := HP.out.recd HT.out.2.1
        have HX := Aside0.mk (And.intro hxx (And.intro hxn (And.intro hbn hb1)))
        clear hxx hxn hbn hb1
        go_wp2_with (first | (go_at_call 58; have hcall := HS.out.S.wait HP.out.hl HT.out.2.1 HX.out.1 HX.out.2.1 HX.out.2.2.1 HX.out.2.2.2 (by have := HNB.out; omega); (with_reducible refine hcall.mono ?_); clear hcall; rintro e_ w6 ⟨rfl, hS_, hk_⟩; have HSn := Aside0.mk (HS.out.turn hS_ hk_); clear HS hS_ hk_; have HS := HSn; clear HSn; (try clear hf)))
        go_roundg (l0.length - (i + 1) + 1)
        case measure => have := HI.out; have := HLT.out; omega
        case rel =>
          refine ⟨i + 1, n, ns, nf, n2, go, co, vu, vs, side, _, _, T, F, rfl, (by first | rfl | rw [wrap_ix (by have := HLT.out; omega)] | simp), ⟨by omega, by have := HLT.out; omega⟩, ⟨?_⟩, ⟨HS.out.sub (List.nil_sublist _)⟩⟩
          exact HP.out.sync HK.out HT.out.1 HT.out.2.1 HX.out.1
      · subst k3
        have hwl : (Lit.int .i64 lc).wf = true := by have := HFR.out.2.2 i HLT.out; rwa [HL.out] at this
        have HWL := Aside0.mk hwl
        clear hwl
        have HNC : Aside0 (ns < maxLen ∧ nf < maxLen) := ⟨by have h1 := HP.out.hs; have h2 := HP.out.hf; have := HLT.out; unfold maxLen; omega⟩
        have HNB2 : Aside0 (n ≤ 8388608) := ⟨by have := HNB.out; omega⟩
        cases hF : F lc with
        | some j =>
          have HJ : Aside0 (F ((lcsOf l0).getD i 0) = some j) := ⟨by rw [HL.out]; exact hF⟩
          have HF : Aside0 ((F lc).isSome = true) := ⟨by rw [hF]; rfl⟩
          clear hF
          go_wp2_with (first | ((with_reducible refine gate_dst (N := 40) rfl ?_); refine wb_lookF HS.out HWL.out rfl (.tmp 37) (.tmp 39) rfl rfl rfl true HF.out ?_; intro q_))
          go_roundg (l0.length - (i + 1) + 1)
          case measure => have := HI.out; have := HLT.out; omega
          case rel =>
            refine ⟨i + 1, n, ns, nf, n2, go, co, vu, vs, side, rt, ts, T, F, rfl, (by first | rfl | rw [wrap_ix (by have := HLT.out; omega)] | simp), ⟨by omega, by have := HLT.out; omega⟩, ⟨?_⟩, ⟨HS.out.sub (List.nil_sublist _)⟩⟩
            exact HP.out.known (by rw [HK.out]; decide) HJ.out
        | none =>
          have HF : Aside0 ((F lc).isSome = false) := ⟨by rw [hF]; rfl⟩
          have hdd := HP.out.deed HFR.out.1 (by rw [kds_len]; exact HLT.out) (by rw [HK.out]; decide) (fun j hj => (HFR.out.2.1 j (by have := HLT.out; omega)).2) (by rw [HL.out]; exact hF)
          rw [HK.out, HL.out] at hdd
          obtain ⟨a, b, ba, bb, hab, hba, hbb, d1, d2, d3, d4⟩ := hdd
          have hcase : T lc = none ∧ a = -1 ∧ b = -1 ∨ T lc = some (a, b) := by
            cases hT : T lc with
            | none => rw [hT] at hab; simp at hab; exact .inl ⟨rfl, hab.1.symm, hab.2.symm⟩
            | some p => rw [hT] at hab; simp at hab; exact .inr (by rw [hab])
          have HDD := Aside0.mk (And.intro d1 (And.intro d2 (And.intro d3 d4)))
          have HBA := Aside0.mk hba
          have HBB := Aside0.mk hbb
          clear hF hab hba hbb d1 d2 d3 d4
          obtain ⟨tn, htn⟩ : ∃ tn : Int, (tk (kdsOf l0) i : Int) = tn := ⟨_, rfl⟩
          rw [htn] at HDD
          have HOWN : Aside0 (t.own = tn) := ⟨by rw [← htn]; exact HT.out.2.2⟩
          clear htn
          rcases hcase with ⟨hT, ha, hb⟩ | hT
          · have HTT : Aside0 ((T lc).isSome = false ∧ (T lc).getD (0, 0) = (0, 0)) := ⟨by rw [hT]; exact ⟨rfl, rfl⟩⟩
            have HAB := Aside0.mk (And.intro ha hb)
            clear hT ha hb
            go_upto_region 13 with (first | ((with_reducible refine gate_dst (N := 40) rfl ?_); refine wb_lookF HS.out HWL.out rfl (.tmp 37) (.tmp 39) rfl rfl rfl false HF.out ?_; intro q_) | ((with_reducible refine gate_dst (N := 48) rfl ?_); refine wb_lookT HS.out HWL.out rfl (.tmp 45) (.tmp 47) rfl rfl rfl false 0 0 HTT.out.1 HTT.out.2 ?_) | ((with_reducible refine gate_dst (N := 12) rfl ?_); (try (refine gate_guard (by rfl) ?_; dsimp only)); refine box_WB (by repeat (first | exact HS.out | refine WB.drew ?_ | refine WB.drewN ?_ _)) ?hg (N := 12) ?hd (cs := #[.int .i64 0, .int .i64 0]) (t := 91) ?hr ?_; (case hd => rfl); (case hg => rfl); (case hr => first | (go_simp; done) | (go_simp; rfl)); intro g12 wb14 HLn; clear HS; have HS := HLn; clear HLn; (try clear hf); have hf := HS.out.C.facts; simp only [factsOf, List.cons_append, List.nil_append] at hf; (try clear hft); have hft := (HS.out.S.O.tk HP.out.hl HT.out.2.1).cells; rw [HOWN.out] at hft))
            generalize hwt : World.setCell _ _ _ = w6
            have HSn : Aside0 (WB w w6 gb bs bf n ns nf vu vs (.slice (some ⟨go, 0, none⟩) n2 co) side rt ts T F [(g12, #[.int .i64 0, .int .i64 0], 91), (g8, #[.int .i64 3, .int .i64 lc], 52)]) := ⟨by rw [← hwt]; exact (HS.out.set 0 rfl 0 _).set 0 rfl 1 _⟩
            clear HS hwt; have HS := HSn; clear HSn; (try clear hf); have hf := HS.out.C.facts; simp only [factsOf, List.cons_append, List.nil_append] at hf; (try clear hft); have hft := (HS.out.S.O.tk HP.out.hl HT.out.2.1).cells; rw [HOWN.out] at hft
            go_upto_region 15 with (first | fail)
            generalize hwt : World.setCell _ _ _ = w7
            have HSn : Aside0 (WB w w7 gb bs bf n ns nf vu vs (.slice (some ⟨go, 0, none⟩) n2 co) side rt ts T F [(g12, #[.int .i64 a, .int .i64 b], 91), (g8, #[.int .i64 3, .int .i64 lc], 52)]) := ⟨by rw [HAB.out.1, HAB.out.2, ← hwt]; exact (HS.out.set 0 rfl 0 _).set 0 rfl 1 _⟩
            clear HS hwt; have HS := HSn; clear HSn; (try clear hf); have hf := HS.out.C.facts; simp only [factsOf, List.cons_append, List.nil_append] at hf; (try clear hft); have hft := (HS.out.S.O.tk HP.out.hl HT.out.2.1).cells; rw [HOWN.out] at hft
            cases ba with
            | true =>
              go_wp2_with (first | (go_at_call 59; (first | (have hcall := HS.out.S.beside HNB2.out HBA.out; (with_reducible refine hcall.mono ?_); clear hcall; rintro e_ w8 ⟨rfl, hS_, hk_⟩) | (have hcall := HS.out.S.beside HNB2.out HBB.out; (with_reducible refine hcall.mono ?_); clear hcall; rintro e_ w8 ⟨rfl, hS_, hk_⟩)); have HSn := Aside0.mk (HS.out.turn hS_ hk_); clear HS hS_ hk_; have HS := HSn; clear HSn; (try clear hf); have hf := HS.out.C.facts; simp only [factsOf, List.cons_append, List.nil_append] at hf; (try clear hft); have hft := (HS.out.S.O.tk HP.out.hl HT.out.2.1).cells; rw [HOWN.out] at hft) | ((with_reducible refine gate_ (.mapUpdate 69 (.tmp 69) (.tmp 71) (.tmp 72)) rfl ?_); refine wb_putF HS.out HBF.out HNC.out.2 HWL.out i hi4 rfl (.tmp 69) (.tmp 71) (.tmp 72) rfl rfl rfl rfl ?_; intro w9 HSn_; clear HS; have HS := Aside0.mk HSn_; clear HSn_; (try clear hf); have hf := HS.out.C.facts; simp only [factsOf, List.cons_append, List.nil_append] at hf; (try clear hft); have hft := (HS.out.S.O.tk HP.out.hl HT.out.2.1).cells; rw [HOWN.out] at hft) | ((with_reducible refine gate_builtin (b := .delete) (xs := #[.tmp 73, .tmp 75]) rfl ?_); at_delete; refine wb_delT HS.out HBF.out HWL.out rfl (.tmp 73) (.tmp 75) rfl rfl rfl ?_; intro w10 HSn_; clear HS; have HS := Aside0.mk HSn_; clear HSn_; (try clear hf); (try clear hft)))
              go_roundg (l0.length - (i + 1) + 1)
              case measure => have := HI.out; have := HLT.out; omega
              case rel =>
                refine ⟨i + 1, n, ns, nf + 1, n2, go, co, vu, vs, side, rt, ts, _, _, rfl, (by first | rfl | rw [wrap_ix (by have := HLT.out; omega)] | simp), ⟨by omega, by have := HLT.out; omega⟩, ⟨?_⟩, ⟨HS.out.sub (List.nil_sublist _)⟩⟩
                exact HDD.out.1 (by simp)
            | false =>
              cases bb with
              | true =>
                go_wp2_with (first | (go_at_call 59; (first | (have hcall := HS.out.S.beside HNB2.out HBA.out; (with_reducible refine hcall.mono ?_); clear hcall; rintro e_ w8 ⟨rfl, hS_, hk_⟩) | (have hcall := HS.out.S.beside HNB2.out HBB.out; (with_reducible refine hcall.mono ?_); clear hcall; rintro e_ w8 ⟨rfl, hS_, hk_⟩)); have HSn := Aside0.mk (HS.out.turn hS_ hk_); clear HS hS_ hk_; have HS := HSn; clear HSn; (try clear hf); have hf := HS.out.C.facts; simp only [factsOf, List.cons_append, List.nil_append] at hf; (try clear hft); have hft := (HS.out.S.O.tk HP.out.hl HT.out.2.1).cells; rw [HOWN.out] at hft) | ((with_reducible refine gate_ (.mapUpdate 85 (.tmp 94) (.tmp 96) (.tmp 97)) rfl ?_); refine wb_putT HS.out HBF.out HNC.out.1 HWL.out _ _ rfl (.tmp 94) (.tmp 96) (.tmp 97) rfl rfl rfl rfl ?_; intro w10 HSn_; clear HS; have HS := Aside0.mk HSn_; clear HSn_; (try clear hf); (try clear hft)))
                go_roundg (l0.length - (i + 1) + 1)
                case measure => have := HI.out; have := HLT.out; omega
                case rel =>
                  refine ⟨i + 1, n, ns + 1, nf, n2, go, co, vu, vs, side, rt, ts, _, F, rfl, (by first | rfl | rw [wrap_ix (by have := HLT.out; omega)] | simp), ⟨by omega, by have := HLT.out; omega⟩, ⟨?_⟩, ⟨HS.out.sub (List.nil_sublist _)⟩⟩
                  exact HDD.out.2.2.2 (by simp) (by simp) (by simp)
              | false =>
                go_upto_region 22 with (first | (go_at_call 59; (first | (have hcall := HS.out.S.beside HNB2.out HBA.out; (with_reducible refine hcall.mono ?_); clear hcall; rintro e_ w8 ⟨rfl, hS_, hk_⟩) | (have hcall := HS.out.S.beside HNB2.out HBB.out; (with_reducible refine hcall.mono ?_); clear hcall; rintro e_ w8 ⟨rfl, hS_, hk_⟩)); have HSn := Aside0.mk (HS.out.turn hS_ hk_); clear HS hS_ hk_; have HS := HSn; clear HSn; (try clear hf); have hf := HS.out.C.facts; simp only [factsOf, List.cons_append, List.nil_append] at hf; (try clear hft); have hft := (HS.out.S.O.tk HP.out.hl HT.out.2.1).cells; rw [HOWN.out] at hft))
                generalize hwt : World.setCell _ _ _ = w9
                have HSn : Aside0 (WB w w9 gb bs bf n ns nf vu vs (.slice (some ⟨go, 0, none⟩) n2 co) side rt ts T F [(g12, #[.int .i64 a, .int .i64 tn], 91), (g8, #[.int .i64 3, .int .i64 lc], 52)]) := ⟨by rw [← hwt]; exact HS.out.set 0 rfl 1 _⟩
                clear HS hwt; have HS := HSn; clear HSn; (try clear hf); have hf := HS.out.C.facts; simp only [factsOf, List.cons_append, List.nil_append] at hf; (try clear hft); have hft := (HS.out.S.O.tk HP.out.hl HT.out.2.1).cells; rw [HOWN.out] at hft
                go_wp2_with (first | (go_at_call 59; (first | (have hcall := HS.out.S.beside HNB2.out HBA.out; (with_reducible refine hcall.mono ?_); clear hcall; rintro e_ w8 ⟨rfl, hS_, hk_⟩) | (have hcall := HS.out.S.beside HNB2.out HBB.out; (with_reducible refine hcall.mono ?_); clear hcall; rintro e_ w8 ⟨rfl, hS_, hk_⟩)); have HSn := Aside0.mk (HS.out.turn hS_ hk_); clear HS hS_ hk_; have HS := HSn; clear HSn; (try clear hf); have hf := HS.out.C.facts; simp only [factsOf, List.cons_append, List.nil_append] at hf; (try clear hft); have hft := (HS.out.S.O.tk HP.out.hl HT.out.2.1).cells; rw [HOWN.out] at hft) | ((with_reducible refine gate_ (.mapUpdate 85 (.tmp 94) (.tmp 96) (.tmp 97)) rfl ?_); refine wb_putT HS.out HBF.out HNC.out.1 HWL.out _ _ rfl (.tmp 94) (.tmp 96) (.tmp 97) rfl rfl rfl rfl ?_; intro w10 HSn_; clear HS; have HS := Aside0.mk HSn_; clear HSn_; (try clear hf); (try clear hft)))
                go_roundg (l0.length - (i + 1) + 1)
                case measure => have := HI.out; have := HLT.out; omega
                case rel =>
                  refine ⟨i + 1, n, ns + 1, nf, n2, go, co, vu, vs, side, rt, ts, _, F, rfl, (by first | rfl | rw [wrap_ix (by have := HLT.out; omega)] | simp), ⟨by omega, by have := HLT.out; omega⟩, ⟨?_⟩, ⟨HS.out.sub (List.nil_sublist _)⟩⟩
                  exact HDD.out.2.2.1 (by simp) (by simp) (by simp)
          · have HTT : Aside0 ((T lc).isSome = true ∧ (T lc).getD (0, 0) = (a, b)) := ⟨by rw [hT]; exact ⟨rfl, rfl⟩⟩
            clear hT
            go_upto_region 13 with (first | ((with_reducible refine gate_dst (N := 40) rfl ?_); refine wb_lookF HS.out HWL.out rfl (.tmp 37) (.tmp 39) rfl rfl rfl false HF.out ?_; intro q_) | ((with_reducible refine gate_dst (N := 48) rfl ?_); refine wb_lookT HS.out HWL.out rfl (.tmp 45) (.tmp 47) rfl rfl rfl true a b HTT.out.1 HTT.out.2 ?_) | ((with_reducible refine gate_dst (N := 12) rfl ?_); (try (refine gate_guard (by rfl) ?_; dsimp only)); refine box_WB (by repeat (first | exact HS.out | refine WB.drew ?_ | refine WB.drewN ?_ _)) ?hg (N := 12) ?hd (cs := #[.int .i64 0, .int .i64 0]) (t := 91) ?hr ?_; (case hd => rfl); (case hg => rfl); (case hr => first | (go_simp; done) | (go_simp; rfl)); intro g12 wb36 HLn; clear HS; have HS := HLn; clear HLn; (try clear hf); have hf := HS.out.C.facts; simp only [factsOf, List.cons_append, List.nil_append] at hf; (try clear hft); have hft := (HS.out.S.O.tk HP.out.hl HT.out.2.1).cells; rw [HOWN.out] at hft))
            generalize hwt : World.setCell _ _ _ = w7
            have HSn : Aside0 (WB w w7 gb bs bf n ns nf vu vs (.slice (some ⟨go, 0, none⟩) n2 co) side rt ts T F [(g12, #[.int .i64 a, .int .i64 b], 91), (g8, #[.int .i64 3, .int .i64 lc], 52)]) := ⟨by rw [← hwt]; exact (HS.out.set 0 rfl 0 _).set 0 rfl 1 _⟩
            clear HS hwt; have HS := HSn; clear HSn; (try clear hf); have hf := HS.out.C.facts; simp only [factsOf, List.cons_append, List.nil_append] at hf; (try clear hft); have hft := (HS.out.S.O.tk HP.out.hl HT.out.2.1).cells; rw [HOWN.out] at hft
            go_upto_region 15 with (first | fail)
            cases ba with
            | true =>
              go_wp2_with (first | (go_at_call 59; (first | (have hcall := HS.out.S.beside HNB2.out HBA.out; (with_reducible refine hcall.mono ?_); clear hcall; rintro e_ w8 ⟨rfl, hS_, hk_⟩) | (have hcall := HS.out.S.beside HNB2.out HBB.out; (with_reducible refine hcall.mono ?_); clear hcall; rintro e_ w8 ⟨rfl, hS_, hk_⟩)); have HSn := Aside0.mk (HS.out.turn hS_ hk_); clear HS hS_ hk_; have HS := HSn; clear HSn; (try clear hf); have hf := HS.out.C.facts; simp only [factsOf, List.cons_append, List.nil_append] at hf; (try clear hft); have hft := (HS.out.S.O.tk HP.out.hl HT.out.2.1).cells; rw [HOWN.out] at hft) | ((with_reducible refine gate_ (.mapUpdate 69 (.tmp 69) (.tmp 71) (.tmp 72)) rfl ?_); refine wb_putF HS.out HBF.out HNC.out.2 HWL.out i hi4 rfl (.tmp 69) (.tmp 71) (.tmp 72) rfl rfl rfl rfl ?_; intro w9 HSn_; clear HS; have HS := Aside0.mk HSn_; clear HSn_; (try clear hf); have hf := HS.out.C.facts; simp only [factsOf, List.cons_append, List.nil_append] at hf; (try clear hft); have hft := (HS.out.S.O.tk HP.out.hl HT.out.2.1).cells; rw [HOWN.out] at hft) | ((with_reducible refine gate_builtin (b := .delete) (xs := #[.tmp 73, .tmp 75]) rfl ?_); at_delete; refine wb_delT HS.out HBF.out HWL.out rfl (.tmp 73) (.tmp 75) rfl rfl rfl ?_; intro w10 HSn_; clear HS; have HS := Aside0.mk HSn_; clear HSn_; (try clear hf); (try clear hft)))
              go_roundg (l0.length - (i + 1) + 1)
              case measure => have := HI.out; have := HLT.out; omega
              case rel =>
                refine ⟨i + 1, n, ns, nf + 1, n2, go, co, vu, vs, side, rt, ts, _, _, rfl, (by first | rfl | rw [wrap_ix (by have := HLT.out; omega)] | simp), ⟨by omega, by have := HLT.out; omega⟩, ⟨?_⟩, ⟨HS.out.sub (List.nil_sublist _)⟩⟩
                exact HDD.out.1 (by simp)
            | false =>
              cases bb with
              | true =>
                go_wp2_with (first | (go_at_call 59; (first | (have hcall := HS.out.S.beside HNB2.out HBA.out; (with_reducible refine hcall.mono ?_); clear hcall; rintro e_ w8 ⟨rfl, hS_, hk_⟩) | (have hcall := HS.out.S.beside HNB2.out HBB.out; (with_reducible refine hcall.mono ?_); clear hcall; rintro e_ w8 ⟨rfl, hS_, hk_⟩)); have HSn := Aside0.mk (HS.out.turn hS_ hk_); clear HS hS_ hk_; have HS := HSn; clear HSn; (try clear hf); have hf := HS.out.C.facts; simp only [factsOf, List.cons_append, List.nil_append] at hf; (try clear hft); have hft := (HS.out.S.O.tk HP.out.hl HT.out.2.1).cells; rw [HOWN.out] at hft) | ((with_reducible refine gate_ (.mapUpdate 85 (.tmp 94) (.tmp 96) (.tmp 97)) rfl ?_); refine wb_putT HS.out HBF.out HNC.out.1 HWL.out _ _ rfl (.tmp 94) (.tmp 96) (.tmp 97) rfl rfl rfl rfl ?_; intro w10 HSn_; clear HS; have HS := Aside0.mk HSn_; clear HSn_; (try clear hf); (try clear hft)))
                go_roundg (l0.length - (i + 1) + 1)
                case measure => have := HI.out; have := HLT.out; omega
                case rel =>
                  refine ⟨i + 1, n, ns + 1, nf, n2, go, co, vu, vs, side, rt, ts, _, F, rfl, (by first | rfl | rw [wrap_ix (by have := HLT.out; omega)] | simp), ⟨by omega, by have := HLT.out; omega⟩, ⟨?_⟩, ⟨HS.out.sub (List.nil_sublist _)⟩⟩
                  exact HDD.out.2.2.2 (by simp) (by simp) (by simp)
              | false =>
                go_upto_region 22 with (first | (go_at_call 59; (first | (have hcall := HS.out.S.beside HNB2.out HBA.out; (with_reducible refine hcall.mono ?_); clear hcall; rintro e_ w8 ⟨rfl, hS_, hk_⟩) | (have hcall := HS.out.S.beside HNB2.out HBB.out; (with_reducible refine hcall.mono ?_); clear hcall; rintro e_ w8 ⟨rfl, hS_, hk_⟩)); have HSn := Aside0.mk (HS.out.turn hS_ hk_); clear HS hS_ hk_; have HS := HSn; clear HSn; (try clear hf); have hf := HS.out.C.facts; simp only [factsOf, List.cons_append, List.nil_append] at hf; (try clear hft); have hft := (HS.out.S.O.tk HP.out.hl HT.out.2.1).cells; rw [HOWN.out] at hft))
                generalize hwt : World.setCell _ _ _ = w9
                have HSn : Aside0 (WB w w9 gb bs bf n ns nf vu vs (.slice (some ⟨go, 0, none⟩) n2 co) side rt ts T F [(g12, #[.int .i64 a, .int .i64 tn], 91), (g8, #[.int .i64 3, .int .i64 lc], 52)]) := ⟨by rw [← hwt]; exact HS.out.set 0 rfl 1 _⟩
                clear HS hwt; have HS := HSn; clear HSn; (try clear hf); have hf := HS.out.C.facts; simp only [factsOf, List.cons_append, List.nil_append] at hf; (try clear hft); have hft := (HS.out.S.O.tk HP.out.hl HT.out.2.1).cells; rw [HOWN.out] at hft
                go_wp2_with (first | (go_at_call 59; (first | (have hcall := HS.out.S.beside HNB2.out HBA.out; (with_reducible refine hcall.mono ?_); clear hcall; rintro e_ w8 ⟨rfl, hS_, hk_⟩) | (have hcall := HS.out.S.beside HNB2.out HBB.out; (with_reducible refine hcall.mono ?_); clear hcall; rintro e_ w8 ⟨rfl, hS_, hk_⟩)); have HSn := Aside0.mk (HS.out.turn hS_ hk_); clear HS hS_ hk_; have HS := HSn; clear HSn; (try clear hf); have hf := HS.out.C.facts; simp only [factsOf, List.cons_append, List.nil_append] at hf; (try clear hft); have hft := (HS.out.S.O.tk HP.out.hl HT.out.2.1).cells; rw [HOWN.out] at hft) | ((with_reducible refine gate_ (.mapUpdate 85 (.tmp 94) (.tmp 96) (.tmp 97)) rfl ?_); refine wb_putT HS.out HBF.out HNC.out.1 HWL.out _ _ rfl (.tmp 94) (.tmp 96) (.tmp 97) rfl rfl rfl rfl ?_; intro w10 HSn_; clear HS; have HS := Aside0.mk HSn_; clear HSn_; (try clear hf); (try clear hft)))
                go_roundg (l0.length - (i + 1) + 1)
                case measure => have := HI.out; have := HLT.out; omega
                case rel =>
                  refine ⟨i + 1, n, ns + 1, nf, n2, go, co, vu, vs, side, rt, ts, _, F, rfl, (by first | rfl | rw [wrap_ix (by have := HLT.out; omega)] | simp), ⟨by omega, by have := HLT.out; omega⟩, ⟨?_⟩, ⟨HS.out.sub (List.nil_sublist _)⟩⟩
                  exact HDD.out.2.2.1 (by simp) (by simp) (by simp)
      · subst k4
        have hwl : (Lit.int .i64 lc).wf = true := by have := HFR.out.2.2 i HLT.out; rwa [HL.out] at this
        have HWL := Aside0.mk hwl
        clear hwl
        have HNC : Aside0 (ns < maxLen ∧ nf < maxLen) := ⟨by have h1 := HP.out.hs; have h2 := HP.out.hf; have := HLT.out; unfold maxLen; omega⟩
        have HNB2 : Aside0 (n ≤ 8388608) := ⟨by have := HNB.out; omega⟩
        cases hF : F lc with
        | some j =>
          have HJ : Aside0 (F ((lcsOf l0).getD i 0) = some j) := ⟨by rw [HL.out]; exact hF⟩
          have HF : Aside0 ((F lc).isSome = true) := ⟨by rw [hF]; rfl⟩
          clear hF
          go_wp2_with (first | ((with_reducible refine gate_dst (N := 40) rfl ?_); refine wb_lookF HS.out HWL.out rfl (.tmp 37) (.tmp 39) rfl rfl rfl true HF.out ?_; intro q_))
          go_roundg (l0.length - (i + 1) + 1)
          case measure => have := HI.out; have := HLT.out; omega
          case rel =>
            refine ⟨i + 1, n, ns, nf, n2, go, co, vu, vs, side, rt, ts, T, F, rfl, (by first | rfl | rw [wrap_ix (by have := HLT.out; omega)] | simp), ⟨by omega, by have := HLT.out; omega⟩, ⟨?_⟩, ⟨HS.out.sub (List.nil_sublist _)⟩⟩
            exact HP.out.known (by rw [HK.out]; decide) HJ.out
        | none =>
          have HF : Aside0 ((F lc).isSome = false) := ⟨by rw [hF]; rfl⟩
          have hdd := HP.out.deed HFR.out.1 (by rw [kds_len]; exact HLT.out) (by rw [HK.out]; decide) (fun j hj => (HFR.out.2.1 j (by have := HLT.out; omega)).2) (by rw [HL.out]; exact hF)
          rw [HK.out, HL.out] at hdd
          obtain ⟨a, b, ba, bb, hab, hba, hbb, d1, d2, d3, d4⟩ := hdd
          have hcase : T lc = none ∧ a = -1 ∧ b = -1 ∨ T lc = some (a, b) := by
            cases hT : T lc with
            | none => rw [hT] at hab; simp at hab; exact .inl ⟨rfl, hab.1.symm, hab.2.symm⟩
            | some p => rw [hT] at hab; simp at hab; exact .inr (by rw [hab])
          have HDD := Aside0.mk (And.intro d1 (And.intro d2 (And.intro d3 d4)))
          have HBA := Aside0.mk hba
          have HBB := Aside0.mk hbb
          clear hF hab hba hbb d1 d2 d3 d4
          obtain ⟨tn, htn⟩ : ∃ tn : Int, (tk (kdsOf l0) i : Int) = tn := ⟨_, rfl⟩
          rw [htn] at HDD
          have HOWN : Aside0 (t.own = tn) := ⟨by rw [← htn]; exact HT.out.2.2⟩
          clear htn
          rcases hcase with ⟨hT, ha, hb⟩ | hT
          · have HTT : Aside0 ((T lc).isSome = false ∧ (T lc).getD (0, 0) = (0, 0)) := ⟨by rw [hT]; exact ⟨rfl, rfl⟩⟩
            have HAB := Aside0.mk (And.intro ha hb)
            clear hT ha hb
            go_upto_region 13 with (first | ((with_reducible refine gate_dst (N := 40) rfl ?_); refine wb_lookF HS.out HWL.out rfl (.tmp 37) (.tmp 39) rfl rfl rfl false HF.out ?_; intro q_) | ((with_reducible refine gate_dst (N := 48) rfl ?_); refine wb_lookT HS.out HWL.out rfl (.tmp 45) (.tmp 47) rfl rfl rfl false 0 0 HTT.out.1 HTT.out.2 ?_) | ((with_reducible refine gate_dst (N := 12) rfl ?_); (try (refine gate_guard (by rfl) ?_; dsimp only)); refine box_WB (by repeat (first | exact HS.out | refine WB.drew ?_ | refine WB.drewN ?_ _)) ?hg (N := 12) ?hd (cs := #[.int .i64 0, .int .i64 0]) (t := 91) ?hr ?_; (case hd => rfl); (case hg => rfl); (case hr => first | (go_simp; done) | (go_simp; rfl)); intro g12 wb57 HLn; clear HS; have HS := HLn; clear HLn; (try clear hf); have hf := HS.out.C.facts; simp only [factsOf, List.cons_append, List.nil_append] at hf; (try clear hft); have hft := (HS.out.S.O.tk HP.out.hl HT.out.2.1).cells; rw [HOWN.out] at hft))
            generalize hwt : World.setCell _ _ _ = w6
            have HSn : Aside0 (WB w w6 gb bs bf n ns nf vu vs (.slice (some ⟨go, 0, none⟩) n2 co) side rt ts T F [(g12, #[.int .i64 0, .int .i64 0], 91), (g8, #[.int .i64 4, .int .i64 lc], 52)]) := ⟨by rw [← hwt]; exact (HS.out.set 0 rfl 0 _).set 0 rfl 1 _⟩
            clear HS hwt; have HS := HSn; clear HSn; (try clear hf); have hf := HS.out.C.facts; simp only [factsOf, List.cons_append, List.nil_append] at hf; (try clear hft); have hft := (HS.out.S.O.tk HP.out.hl HT.out.2.1).cells; rw [HOWN.out] at hft
            go_upto_region 15 with (first | fail)
            generalize hwt : World.setCell _ _ _ = w7
            have HSn : Aside0 (WB w w7 gb bs bf n ns nf vu vs (.slice (some ⟨go, 0, none⟩) n2 co) side rt ts T F [(g12, #[.int .i64 a, .int .i64 b], 91), (g8, #[.int .i64 4, .int .i64 lc], 52)]) := ⟨by rw [HAB.out.1, HAB.out.2, ← hwt]; exact (HS.out.set 0 rfl 0 _).set 0 rfl 1 _⟩
            clear HS hwt; have HS := HSn; clear HSn; (try clear hf); have hf := HS.out.C.facts; simp only [factsOf, List.cons_append, List.nil_append] at hf; (try clear hft); have hft := (HS.out.S.O.tk HP.out.hl HT.out.2.1).cells; rw [HOWN.out] at hft
            cases ba with
            | true =>
              go_wp2_with (first | (go_at_call 59; (first | (have hcall := HS.out.S.beside HNB2.out HBA.out; (with_reducible refine hcall.mono ?_); clear hcall; rintro e_ w8 ⟨rfl, hS_, hk_⟩) | (have hcall := HS.out.S.beside HNB2.out HBB.out; (with_reducible refine hcall.mono ?_); clear hcall; rintro e_ w8 ⟨rfl, hS_, hk_⟩)); have HSn := Aside0.mk (HS.out.turn hS_ hk_); clear HS hS_ hk_; have HS := HSn; clear HSn; (try clear hf); have hf := HS.out.C.facts; simp only [factsOf, List.cons_append, List.nil_append] at hf; (try clear hft); have hft := (HS.out.S.O.tk HP.out.hl HT.out.2.1).cells; rw [HOWN.out] at hft) | ((with_reducible refine gate_ (.mapUpdate 69 (.tmp 69) (.tmp 71) (.tmp 72)) rfl ?_); refine wb_putF HS.out HBF.out HNC.out.2 HWL.out i hi4 rfl (.tmp 69) (.tmp 71) (.tmp 72) rfl rfl rfl rfl ?_; intro w9 HSn_; clear HS; have HS := Aside0.mk HSn_; clear HSn_; (try clear hf); have hf := HS.out.C.facts; simp only [factsOf, List.cons_append, List.nil_append] at hf; (try clear hft); have hft := (HS.out.S.O.tk HP.out.hl HT.out.2.1).cells; rw [HOWN.out] at hft) | ((with_reducible refine gate_builtin (b := .delete) (xs := #[.tmp 73, .tmp 75]) rfl ?_); at_delete; refine wb_delT HS.out HBF.out HWL.out rfl (.tmp 73) (.tmp 75) rfl rfl rfl ?_; intro w10 HSn_; clear HS; have HS := Aside0.mk HSn_; clear HSn_; (try clear hf); (try clear hft)))
              go_roundg (l0.length - (i + 1) + 1)
              case measure => have := HI.out; have := HLT.out; omega
              case rel =>
                refine ⟨i + 1, n, ns, nf + 1, n2, go, co, vu, vs, side, rt, ts, _, _, rfl, (by first | rfl | rw [wrap_ix (by have := HLT.out; omega)] | simp), ⟨by omega, by have := HLT.out; omega⟩, ⟨?_⟩, ⟨HS.out.sub (List.nil_sublist _)⟩⟩
                exact HDD.out.1 (by simp)
            | false =>
              cases bb with
              | true =>
                go_wp2_with (first | (go_at_call 59; (first | (have hcall := HS.out.S.beside HNB2.out HBA.out; (with_reducible refine hcall.mono ?_); clear hcall; rintro e_ w8 ⟨rfl, hS_, hk_⟩) | (have hcall := HS.out.S.beside HNB2.out HBB.out; (with_reducible refine hcall.mono ?_); clear hcall; rintro e_ w8 ⟨rfl, hS_, hk_⟩)); have HSn := Aside0.mk (HS.out.turn hS_ hk_); clear HS hS_ hk_; have HS := HSn; clear HSn; (try clear hf); have hf := HS.out.C.facts; simp only [factsOf, List.cons_append, List.nil_append] at hf; (try clear hft); have hft := (HS.out.S.O.tk HP.out.hl HT.out.2.1).cells; rw [HOWN.out] at hft) | ((with_reducible refine gate_ (.mapUpdate 69 (.tmp 69) (.tmp 71) (.tmp 72)) rfl ?_); refine wb_putF HS.out HBF.out HNC.out.2 HWL.out i hi4 rfl (.tmp 69) (.tmp 71) (.tmp 72) rfl rfl rfl rfl ?_; intro w9 HSn_; clear HS; have HS := Aside0.mk HSn_; clear HSn_; (try clear hf); have hf := HS.out.C.facts; simp only [factsOf, List.cons_append, List.nil_append] at hf; (try clear hft); have hft := (HS.out.S.O.tk HP.out.hl HT.out.2.1).cells; rw [HOWN.out] at hft) | ((with_reducible refine gate_builtin (b := .delete) (xs := #[.tmp 73, .tmp 75]) rfl ?_); at_delete; refine wb_delT HS.out HBF.out HWL.out rfl (.tmp 73) (.tmp 75) rfl rfl rfl ?_; intro w10 HSn_; clear HS; have HS := Aside0.mk HSn_; clear HSn_; (try clear hf); (try clear hft)))
                go_roundg (l0.length - (i + 1) + 1)
                case measure => have := HI.out; have := HLT.out; omega
                case rel =>
                  refine ⟨i + 1, n, ns, nf + 1, n2, go, co, vu, vs, side, rt, ts, _, _, rfl, (by first | rfl | rw [wrap_ix (by have := HLT.out; omega)] | simp), ⟨by omega, by have := HLT.out; omega⟩, ⟨?_⟩, ⟨HS.out.sub (List.nil_sublist _)⟩⟩
                  exact HDD.out.1 (by simp)
              | false =>
                go_upto_region 22 with (first | (go_at_call 59; (first | (have hcall := HS.out.S.beside HNB2.out HBA.out; (with_reducible refine hcall.mono ?_); clear hcall; rintro e_ w8 ⟨rfl, hS_, hk_⟩) | (have hcall := HS.out.S.beside HNB2.out HBB.out; (with_reducible refine hcall.mono ?_); clear hcall; rintro e_ w8 ⟨rfl, hS_, hk_⟩)); have HSn := Aside0.mk (HS.out.turn hS_ hk_); clear HS hS_ hk_; have HS := HSn; clear HSn; (try clear hf); have hf := HS.out.C.facts; simp only [factsOf, List.cons_append, List.nil_append] at hf; (try clear hft); have hft := (HS.out.S.O.tk HP.out.hl HT.out.2.1).cells; rw [HOWN.out] at hft))
                generalize hwt : World.setCell _ _ _ = w9
                have HSn : Aside0 (WB w w9 gb bs bf n ns nf vu vs (.slice (some ⟨go, 0, none⟩) n2 co) side rt ts T F [(g12, #[.int .i64 tn, .int .i64 b], 91), (g8, #[.int .i64 4, .int .i64 lc], 52)]) := ⟨by rw [← hwt]; exact HS.out.set 0 rfl 0 _⟩
                clear HS hwt; have HS := HSn; clear HSn; (try clear hf); have hf := HS.out.C.facts; simp only [factsOf, List.cons_append, List.nil_append] at hf; (try clear hft); have hft := (HS.out.S.O.tk HP.out.hl HT.out.2.1).cells; rw [HOWN.out] at hft
                go_wp2_with (first | (go_at_call 59; (first | (have hcall := HS.out.S.beside HNB2.out HBA.out; (with_reducible refine hcall.mono ?_); clear hcall; rintro e_ w8 ⟨rfl, hS_, hk_⟩) | (have hcall := HS.out.S.beside HNB2.out HBB.out; (with_reducible refine hcall.mono ?_); clear hcall; rintro e_ w8 ⟨rfl, hS_, hk_⟩)); have HSn := Aside0.mk (HS.out.turn hS_ hk_); clear HS hS_ hk_; have HS := HSn; clear HSn; (try clear hf); have hf := HS.out.C.facts; simp only [factsOf, List.cons_append, List.nil_append] at hf; (try clear hft); have hft := (HS.out.S.O.tk HP.out.hl HT.out.2.1).cells; rw [HOWN.out] at hft) | ((with_reducible refine gate_ (.mapUpdate 85 (.tmp 94) (.tmp 96) (.tmp 97)) rfl ?_); refine wb_putT HS.out HBF.out HNC.out.1 HWL.out _ _ rfl (.tmp 94) (.tmp 96) (.tmp 97) rfl rfl rfl rfl ?_; intro w10 HSn_; clear HS; have HS := Aside0.mk HSn_; clear HSn_; (try clear hf); (try clear hft)))
                go_roundg (l0.length - (i + 1) + 1)
                case measure => have := HI.out; have := HLT.out; omega
                case rel =>
                  refine ⟨i + 1, n, ns + 1, nf, n2, go, co, vu, vs, side, rt, ts, _, F, rfl, (by first | rfl | rw [wrap_ix (by have := HLT.out; omega)] | simp), ⟨by omega, by have := HLT.out; omega⟩, ⟨?_⟩, ⟨HS.out.sub (List.nil_sublist _)⟩⟩
                  exact HDD.out.2.1 (by simp) (by simp) (by simp)
          · have HTT : Aside0 ((T lc).isSome = true ∧ (T lc).getD (0, 0) = (a, b)) := ⟨by rw [hT]; exact ⟨rfl, rfl⟩⟩
            clear hT
            go_upto_region 13 with (first | ((with_reducible refine gate_dst (N := 40) rfl ?_); refine wb_lookF HS.out HWL.out rfl (.tmp 37) (.tmp 39) rfl rfl rfl false HF.out ?_; intro q_) | ((with_reducible refine gate_dst (N := 48) rfl ?_); refine wb_lookT HS.out HWL.out rfl (.tmp 45) (.tmp 47) rfl rfl rfl true a b HTT.out.1 HTT.out.2 ?_) | ((with_reducible refine gate_dst (N := 12) rfl ?_); (try (refine gate_guard (by rfl) ?_; dsimp only)); refine box_WB (by repeat (first | exact HS.out | refine WB.drew ?_ | refine WB.drewN ?_ _)) ?hg (N := 12) ?hd (cs := #[.int .i64 0, .int .i64 0]) (t := 91) ?hr ?_; (case hd => rfl); (case hg => rfl); (case hr => first | (go_simp; done) | (go_simp; rfl)); intro g12 wb81 HLn; clear HS; have HS := HLn; clear HLn; (try clear hf); have hf := HS.out.C.facts; simp only [factsOf, List.cons_append, List.nil_append] at hf; (try clear hft); have hft := (HS.out.S.O.tk HP.out.hl HT.out.2.1).cells; rw [HOWN.out] at hft))
            generalize hwt : World.setCell _ _ _ = w7
            have HSn : Aside0 (WB w w7 gb bs bf n ns nf vu vs (.slice (some ⟨go, 0, none⟩) n2 co) side rt ts T F [(g12, #[.int .i64 a, .int .i64 b], 91), (g8, #[.int .i64 4, .int .i64 lc], 52)]) := ⟨by rw [← hwt]; exact (HS.out.set 0 rfl 0 _).set 0 rfl 1 _⟩
            clear HS hwt; have HS := HSn; clear HSn; (try clear hf); have hf := HS.out.C.facts; simp only [factsOf, List.cons_append, List.nil_append] at hf; (try clear hft); have hft := (HS.out.S.O.tk HP.out.hl HT.out.2.1).cells; rw [HOWN.out] at hft
            go_upto_region 15 with (first | fail)
            cases ba with
            | true =>
              go_wp2_with (first | (go_at_call 59; (first | (have hcall := HS.out.S.beside HNB2.out HBA.out; (with_reducible refine hcall.mono ?_); clear hcall; rintro e_ w8 ⟨rfl, hS_, hk_⟩) | (have hcall := HS.out.S.beside HNB2.out HBB.out; (with_reducible refine hcall.mono ?_); clear hcall; rintro e_ w8 ⟨rfl, hS_, hk_⟩)); have HSn := Aside0.mk (HS.out.turn hS_ hk_); clear HS hS_ hk_; have HS := HSn; clear HSn; (try clear hf); have hf := HS.out.C.facts; simp only [factsOf, List.cons_append, List.nil_append] at hf; (try clear hft); have hft := (HS.out.S.O.tk HP.out.hl HT.out.2.1).cells; rw [HOWN.out] at hft) | ((with_reducible refine gate_ (.mapUpdate 69 (.tmp 69) (.tmp 71) (.tmp 72)) rfl ?_); refine wb_putF HS.out HBF.out HNC.out.2 HWL.out i hi4 rfl (.tmp 69) (.tmp 71) (.tmp 72) rfl rfl rfl rfl ?_; intro w9 HSn_; clear HS; have HS := Aside0.mk HSn_; clear HSn_; (try clear hf); have hf := HS.out.C.facts; simp only [factsOf, List.cons_append, List.nil_append] at hf; (try clear hft); have hft := (HS.out.S.O.tk HP.out.hl HT.out.2.1).cells; rw [HOWN.out] at hft) | ((with_reducible refine gate_builtin (b := .delete) (xs := #[.tmp 73, .tmp 75]) rfl ?_); at_delete; refine wb_delT HS.out HBF.out HWL.out rfl (.tmp 73) (.tmp 75) rfl rfl rfl ?_; intro w10 HSn_; clear HS; have HS := Aside0.mk HSn_; clear HSn_; (try clear hf); (try clear hft)))
              go_roundg (l0.length - (i + 1) + 1)
              case measure => have := HI.out; have := HLT.out; omega
              case rel =>
                refine ⟨i + 1, n, ns, nf + 1, n2, go, co, vu, vs, side, rt, ts, _, _, rfl, (by first | rfl | rw [wrap_ix (by have := HLT.out; omega)] | simp), ⟨by omega, by have := HLT.out; omega⟩, ⟨?_⟩, ⟨HS.out.sub (List.nil_sublist _)⟩⟩
                exact HDD.out.1 (by simp)
            | false =>
              cases bb with
              | true =>
                go_wp2_with (first | (go_at_call 59; (first | (have hcall := HS.out.S.beside HNB2.out HBA.out; (with_reducible refine hcall.mono ?_); clear hcall; rintro e_ w8 ⟨rfl, hS_, hk_⟩) | (have hcall := HS.out.S.beside HNB2.out HBB.out; (with_reducible refine hcall.mono ?_); clear hcall; rintro e_ w8 ⟨rfl, hS_, hk_⟩)); have HSn := Aside0.mk (HS.out.turn hS_ hk_); clear HS hS_ hk_; have HS := HSn; clear HSn; (try clear hf); have hf := HS.out.C.facts; simp only [factsOf, List.cons_append, List.nil_append] at hf; (try clear hft); have hft := (HS.out.S.O.tk HP.out.hl HT.out.2.1).cells; rw [HOWN.out] at hft) | ((with_reducible refine gate_ (.mapUpdate 69 (.tmp 69) (.tmp 71) (.tmp 72)) rfl ?_); refine wb_putF HS.out HBF.out HNC.out.2 HWL.out i hi4 rfl (.tmp 69) (.tmp 71) (.tmp 72) rfl rfl rfl rfl ?_; intro w9 HSn_; clear HS; have HS := Aside0.mk HSn_; clear HSn_; (try clear hf); have hf := HS.out.C.facts; simp only [factsOf, List.cons_append, List.nil_append] at hf; (try clear hft); have hft := (HS.out.S.O.tk HP.out.hl HT.out.2.1).cells; rw [HOWN.out] at hft) | ((with_reducible refine gate_builtin (b := .delete) (xs := #[.tmp 73, .tmp 75]) rfl ?_); at_delete; refine wb_delT HS.out HBF.out HWL.out rfl (.tmp 73) (.tmp 75) rfl rfl rfl ?_; intro w10 HSn_; clear HS; have HS := Aside0.mk HSn_; clear HSn_; (try clear hf); (try clear hft)))
                go_roundg (l0.length - (i + 1) + 1)
                case measure => have := HI.out; have := HLT.out; omega
                case rel =>
                  refine ⟨i + 1, n, ns, nf + 1, n2, go, co, vu, vs, side, rt, ts, _, _, rfl, (by first | rfl | rw [wrap_ix (by have := HLT.out; omega)] | simp), ⟨by omega, by have := HLT.out; omega⟩, ⟨?_⟩, ⟨HS.out.sub (List.nil_sublist _)⟩⟩
                  exact HDD.out.1 (by simp)
              | false =>
                go_upto_region 22 with (first | (go_at_call 59; (first | (have hcall := HS.out.S.beside HNB2.out HBA.out; (with_reducible refine hcall.mono ?_); clear hcall; rintro e_ w8 ⟨rfl, hS_, hk_⟩) | (have hcall := HS.out.S.beside HNB2.out HBB.out; (with_reducible refine hcall.mono ?_); clear hcall; rintro e_ w8 ⟨rfl, hS_, hk_⟩)); have HSn := Aside0.mk (HS.out.turn hS_ hk_); clear HS hS_ hk_; have HS := HSn; clear HSn; (try clear hf); have hf := HS.out.C.facts; simp only [factsOf, List.cons_append, List.nil_append] at hf; (try clear hft); have hft := (HS.out.S.O.tk HP.out.hl HT.out.2.1).cells; rw [HOWN.out] at hft))
                generalize hwt : World.setCell _ _ _ = w9
                have HSn : Aside0 (WB w w9 gb bs bf n ns nf vu vs (.slice (some ⟨go, 0, none⟩) n2 co) side rt ts T F [(g12, #[.int .i64 tn, .int .i64 b], 91), (g8, #[.int .i64 4, .int .i64 lc], 52)]) := ⟨by rw [← hwt]; exact HS.out.set 0 rfl 0 _⟩
                clear HS hwt; have HS := HSn; clear HSn; (try clear hf); have hf := HS.out.C.facts; simp only [factsOf, List.cons_append, List.nil_append] at hf; (try clear hft); have hft := (HS.out.S.O.tk HP.out.hl HT.out.2.1).cells; rw [HOWN.out] at hft
                go_wp2_with (first | (go_at_call 59; (first | (have hcall := HS.out.S.beside HNB2.out HBA.out; (with_reducible refine hcall.mono ?_); clear hcall; rintro e_ w8 ⟨rfl, hS_, hk_⟩) | (have hcall := HS.out.S.beside HNB2.out HBB.out; (with_reducible refine hcall.mono ?_); clear hcall; rintro e_ w8 ⟨rfl, hS_, hk_⟩)); have HSn := Aside0.mk (HS.out.turn hS_ hk_); clear HS hS_ hk_; have HS := HSn; clear HSn; (try clear hf); have hf := HS.out.C.facts; simp only [factsOf, List.cons_append, List.nil_append] at hf; (try clear hft); have hft := (HS.out.S.O.tk HP.out.hl HT.out.2.1).cells; rw [HOWN.out] at hft) | ((with_reducible refine gate_ (.mapUpdate 85 (.tmp 94) (.tmp 96) (.tmp 97)) rfl ?_); refine wb_putT HS.out HBF.out HNC.out.1 HWL.out _ _ rfl (.tmp 94) (.tmp 96) (.tmp 97) rfl rfl rfl rfl ?_; intro w10 HSn_; clear HS; have HS := Aside0.mk HSn_; clear HSn_; (try clear hf); (try clear hft)))
                go_roundg (l0.length - (i + 1) + 1)
                case measure => have := HI.out; have := HLT.out; omega
                case rel =>
                  refine ⟨i + 1, n, ns + 1, nf, n2, go, co, vu, vs, side, rt, ts, _, F, rfl, (by first | rfl | rw [wrap_ix (by have := HLT.out; omega)] | simp), ⟨by omega, by have := HLT.out; omega⟩, ⟨?_⟩, ⟨HS.out.sub (List.nil_sublist _)⟩⟩
                  exact HDD.out.2.1 (by simp) (by simp) (by simp)
    · have hge : ¬ ((i : Int) < (l0.length : Int)) := by omega
      have HGE := Aside0.mk hlt
      clear hlt
      go_wp2_with (first | fail)
      show bodyPost Try.prog Try.f46 (WalkPost l0 w) Exit.ret _ _
      go_ret
      have hil : i = l0.length := by have := HI.out; have := HGE.out; omega
      have hP := HP.out
      rw [hil] at hP
      exact ⟨⟨bf, nf, F, rfl, HS.out.S.M.found, hP.wi.found, fun loc hF => by obtain ⟨w1, r1, h1, -⟩ := hP.wi.seen loc hF; exact h1.calm, by have := hP.hf; omega, HBF.out.2.1⟩, HS.out.S.B⟩
end Go.Proofs.Ytkecgjmbamaejaa.P
