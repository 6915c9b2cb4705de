/- Proofs for this claim: printed by our driver and joined by pack.py; the last text holds the statement. -/
import Derived.Test.YtbpbfboaofkpaaaDoorQkQ5
section
namespace Go.Proofs.YtbpbfboaofkpaaaDoor.Print
open Go.RowKit Go.Proofs.YtbpbfboaofkpaaaDoorW.PrintWords Go.Proofs.YtbpbfboaofkpaaaDoorW.PrintLast Go.Proofs.YtbpbfboaofkpaaaDoorW.PrintMore
attribute [local go_sem] max2_int min2_int max_two min_two max_three min_three max_four min_four
set_option linter.unusedVariables false
set_option linter.unusedSimpArgs false
set_option maxHeartbeats 8000000 in
set_option maxRecDepth 100000 in
theorem YC.calls (k : Nat) (a0 : ByteArray) (r1 : Int) (r2 : ByteArray) (r3 : List ByteArray) (r4 : List (S37)) (r5 : Int) (r6 : Int) (w : World) (hT : Tabs w) (h : YC.f k a0 = some (r1, r2, r3, r4, r5, r6)) :
  Calls Tryd.prog 26 #[.string a0] w fun e w' => ∃ v2_ v3_ : Value, e = .returned (.tuple #[.agg #[.int .i64 r1, .string r2, v2_, v3_], .int .i64 r5, .int .i64 r6]) ∧ Kd.R Kd.string 9 w' w.heap.size (fun k_ => (w.heap.size ≤ k_)) v2_ r3 ∧ Kd.N k37 37 w' w.heap.size (fun k_ => (w.heap.size ≤ k_) ∧ some k_ ≠ (v2_ : Value).ownBlock) v3_ r4 ∧ Below w.heap.size w w' := by
 have HT := Y0.mk hT
 clear hT
 have hu37 := Tryd.underlying37
 have hu81 := Tryd.underlying81
 have HB := Y0.mk (Below.refl w.heap.size w)
 have H : (if (a0.size : Int) > 600 then (some (0, (⟨#[]⟩ : ByteArray), ([] : List ByteArray), ([] : List (S37)), 0, 4)) else ((Yh.f k a0 0 0 0 0).bind fun bt103 => ((Yd.f k bt103.2.2.2.2.1 bt103.2.2.2.2.2.1 bt103.2.2.2.2.2.2.1 bt103.2.2.2.2.2.2.2).bind fun bt116 => (if bt116.2.2.2.1 = 0 then (YC.j0 k a0 (decide (bt116.2.2.1 < (a0.size : Int))) bt116.2.1 bt116.2.2.1 bt116.2.2.2.1 bt116.2.2.2.2 bt103.1 bt103.2.1 bt103.2.2.1 bt103.2.2.2.1) else (YC.j0 k a0 false bt116.2.1 bt116.2.2.1 bt116.2.2.2.1 bt116.2.2.2.2 bt103.1 bt103.2.1 bt103.2.2.1 bt103.2.2.2.1))))) = some (r1, r2, r3, r4, r5, r6) := h
 clear h
 by_cases c2 : (a0.size : Int) > 600
 ·rw [if_pos c2] at H
  have c2b0 : decide (600 < (a0.size : Int)) = true := decide_eq_true c2
  have c2b1 : decide (600 < a0.size) = true := decide_eq_true (by omega)
  clear c2
  simp only [Option.some.injEq, Prod.mk.injEq] at H
  obtain ⟨rfl, rfl, rfl, rfl, rfl, rfl⟩ := H
  go_enter Tryd.func26, Tryd.ntmps26
  go_wp2_with (first | ((with_reducible refine YF (N := 2) rfl ?_); (try (refine YX (by rfl) ?_; dsimp only)); refine YE ?hg (N := 2) ?hd (cs := #[.int .i64 0, .string (⟨#[]⟩ : ByteArray), .slice none 0 0, .slice none 0 0]) (t := 37) ?hr ?_; (case hd => rfl); (case hg => rfl); (case hr => exact Za); intro gb101 hg w3 hbox hb; have n_ := Y31 (Yb QB hb) (hbox) ((by rw [hg]; exact (Ym QB) : w.heap.size ≤ gb101)) ((by rw [hg]; exact (Ym QB) : w.heap.size ≤ gb101)); clear HB; obtain ⟨HB, BK101, GW101, GE101⟩ := n_; clear hb hbox hg; obtain ⟨hcz4_0, hcz4_1, hcz4_2, hcz4_3, hfz4_0, hfz4_1, hfz4_2, hfz4_3⟩ := YA BK101.out))
  refine bodyPost_ret (Y1O rfl _ _ gb101 37 #[.int .i64 0, .string (⟨#[]⟩ : ByteArray), .slice none 0 0, .slice none 0 0] (0, 0) _ rfl Z1W Tryd.underlying37 rfl Z6) rfl ?_
  exact Z2k
 ·rw [if_neg c2] at H
  have c2b0 : decide (600 < (a0.size : Int)) = false := decide_eq_false c2
  have c2b1 : decide (600 < a0.size) = false := decide_eq_false (by omega)
  clear c2
  replace H := Option.bind_eq_some_iff.mp H
  obtain ⟨⟨t103, t104, t105, t108, t111, t112, t113, t114⟩, A50, H⟩ := H
  replace H : ((Yd.f k t111 t112 t113 t114).bind fun bt116 => (if bt116.2.2.2.1 = 0 then (YC.j0 k a0 (decide (bt116.2.2.1 < (a0.size : Int))) bt116.2.1 bt116.2.2.1 bt116.2.2.2.1 bt116.2.2.2.2 t103 t104 t105 t108) else (YC.j0 k a0 false bt116.2.1 bt116.2.2.1 bt116.2.2.2.1 bt116.2.2.2.2 t103 t104 t105 t108))) = some (r1, r2, r3, r4, r5, r6) := H
  have A5 := Y0.mk A50
  clear A50
  replace H := Option.bind_eq_some_iff.mp H
  obtain ⟨⟨t116, t117, t118, t119, t120⟩, A60, H⟩ := H
  replace H : (if t119 = 0 then (YC.j0 k a0 (decide (t118 < (a0.size : Int))) t117 t118 t119 t120 t103 t104 t105 t108) else (YC.j0 k a0 false t117 t118 t119 t120 t103 t104 t105 t108)) = some (r1, r2, r3, r4, r5, r6) := H
  have A6 := Y0.mk A60
  clear A60
  have HC7 := Y0.mk H
  clear H
  go_enter Tryd.func26, Tryd.ntmps26
  go_upto_region 6 with (first | ((with_reducible refine YF (N := 2) rfl ?_); (try (refine YX (by rfl) ?_; dsimp only)); refine YE ?hg (N := 2) ?hd (cs := #[.int .i64 0, .string (⟨#[]⟩ : ByteArray), .slice none 0 0, .slice none 0 0]) (t := 37) ?hr ?_; (case hd => rfl); (case hg => rfl); (case hr => exact Za); intro gb101 hg w8 hbox hb; have n_ := Y31 (Yb QB hb) (hbox) ((by rw [hg]; exact (Ym QB) : w.heap.size ≤ gb101)) ((by rw [hg]; exact (Ym QB) : w.heap.size ≤ gb101)); clear HB; obtain ⟨HB, BK101, GW101, GE101⟩ := n_; clear hb hbox hg) | ((with_reducible refine YF (N := 13) rfl ?_); (try (refine YX (by rfl) ?_; dsimp only)); refine YE ?hg (N := 13) ?hd (cs := #[.string a0, .int .i64 0, .int .i64 0, .int .i64 0]) (t := 81) ?hr ?_; (case hd => rfl); (case hg => rfl); (case hr => exact Za); intro gb102 hg w9 hbox hb; have n_ := put7 (Yu (g := gb101) (o := .cells #[.int .i64 0, .string (⟨#[]⟩ : ByteArray), .slice none 0 0, .slice none 0 0] 37 (0, 0)) QQ hb) (Yb QB hb) ((by rw [hg]; exact (Ym QB) : w.heap.size ≤ gb102)) ((by rw [hg]; exact (Ym QB) : w.heap.size ≤ gb102)) ((by rw [hg]; exact Nat.ne_of_lt (Y15 (g := gb101) (o := .cells #[.int .i64 0, .string (⟨#[]⟩ : ByteArray), .slice none 0 0, .slice none 0 0] 37 (0, 0)) QQ) : gb101 ≠ gb102)) ((by rw [hg]; exact Nat.ne_of_gt (Y15 (g := gb101) (o := .cells #[.int .i64 0, .string (⟨#[]⟩ : ByteArray), .slice none 0 0, .slice none 0 0] 37 (0, 0)) QQ) : gb102 ≠ gb101)) ((⟨hbox, (by rw [hg]; exact (Ym QB))⟩ : YB w w9 gb102 a0 0 0 0)); clear BK101 HB; obtain ⟨BK101, HB, GW102, GE102, NB101_102, NB102_101, HI102⟩ := n_; clear hb hbox hg) | ((with_reducible refine Yn (f := 55) rfl ?_); refine YO (some 15) rfl rfl Tryd.func55 Z6 rfl #[.pointer (some ⟨gb102, 0, none⟩), .int .i64 0] rfl Z0 ?_; (with_reducible refine (Yh.calls k gb102 a0 0 0 0 0 t103 t104 t105 t108 t111 t112 t113 t114 w _ ?side1 ?side2 ?side3 A5.out).mono ?_); (case side1 => exact QI81_102); (case side2 => exact QB); (case side3 => exact Z1O); rintro e w10 ⟨v106, v109, rfl, ho0, ho1, hi, hb, hk⟩; refine ⟨_, rfl, ?_⟩; have n0_ := Y0.mk (Y1.blk hk (g' := gb101) (o := .cells #[.int .i64 0, .string (⟨#[]⟩ : ByteArray), .slice none 0 0, .slice none 0 0] 37 (0, 0)) QQ NB101_102.out (by simp)); have n1_ := Y0.mk (Kd.R_lower (Kd.R_newM (M := fun k_ => (w.heap.size ≤ k_)) (Kd.R_mono (ok' := fun k_ => True) ho0 (fun _ hk_ => trivial)) (Ym QB) (fun k_ h_ => h_)) (Ym QB)); have n2_ := Y0.mk (Kd.N_lower (Kd.N_mono (ok' := fun k_ => (w.heap.size ≤ k_) ∧ some k_ ≠ (v106 : Value).ownBlock ∧ k_ ≠ gb101 ∧ k_ ≠ gb102) ho1 (fun k_ hk_ => ⟨(Nat.le_trans (Ym QB) hk_.1), hk_.2, (Kd.freshB (g := gb101) (o := .cells #[.int .i64 0, .string (⟨#[]⟩ : ByteArray), .slice none 0 0, .slice none 0 0] 37 (0, 0)) QQ k_ hk_.1), (YB.fresh QI81_102 k_ hk_.1)⟩)) (Ym QB)); have n3_ := Y0.mk (hb); have n4_ := Y0.mk (hi); clear BK101 HB HI102; have BK101 := n0_; have HO107 := n1_; have HO110 := n2_; have HB := n3_; have HI102 := n4_; clear n0_ n1_ n2_ n3_ n4_; (try clear hb); (try clear hb2); (try clear hk); (try clear hi); (try clear ho0); (try clear ho1)) | ((with_reducible refine YF (N := 6) rfl ?_); (try (refine YX (by rfl) ?_; dsimp only)); refine YE ?hg (N := 6) ?hd (cs := #[.int .i64 0, .string (⟨#[]⟩ : ByteArray), .slice none 0 0, .slice none 0 0]) (t := 37) ?hr ?_; (case hd => rfl); (case hg => rfl); (case hr => exact Za); intro gb115 hg w11 hbox hb; have n0_ := Y0.mk (Kd.R_below Z1K hb); have n1_ := Y0.mk (Kd.N_below (Kd.N_elderB Z1H gb115 (Nat.le_of_eq hg.symm)) hb); have n2_ := Y0.mk (Yu (g := gb101) (o := .cells #[.int .i64 0, .string (⟨#[]⟩ : ByteArray), .slice none 0 0, .slice none 0 0] 37 (0, 0)) QQ hb); have n3_ := Y0.mk (YB.below QI81_102 hb); have n4_ := Y0.mk (Yb QB hb); have n5_ := Y0.mk (hbox); have n6_ := Y0.mk ((by rw [hg]; exact (Ym QB) : w.heap.size ≤ gb115)); have n7_ := Y0.mk ((by rw [hg]; exact (Ym QB) : w.heap.size ≤ gb115)); have n8_ := Y0.mk ((by rw [hg]; exact Nat.ne_of_lt (Y15 (g := gb101) (o := .cells #[.int .i64 0, .string (⟨#[]⟩ : ByteArray), .slice none 0 0, .slice none 0 0] 37 (0, 0)) QQ) : gb101 ≠ gb115)); have n9_ := Y0.mk ((by rw [hg]; exact Nat.ne_of_gt (Y15 (g := gb101) (o := .cells #[.int .i64 0, .string (⟨#[]⟩ : ByteArray), .slice none 0 0, .slice none 0 0] 37 (0, 0)) QQ) : gb115 ≠ gb101)); have n10_ := Y0.mk ((by rw [hg]; exact Nat.ne_of_lt (YB.lt (show YB w _ gb102 t111 t112 t113 t114 from QI81_102)) : gb102 ≠ gb115)); have n11_ := Y0.mk ((by rw [hg]; exact Nat.ne_of_gt (YB.lt (show YB w _ gb102 t111 t112 t113 t114 from QI81_102)) : gb115 ≠ gb102)); clear HO107 HO110 BK101 HI102 HB; have HO107 := n0_; have HO110 := n1_; have BK101 := n2_; have HI102 := n3_; have HB := n4_; have BK115 := n5_; have GW115 := n6_; have GE115 := n7_; have NB101_115 := n8_; have NB115_101 := n9_; have NB102_115 := n10_; have NB115_102 := n11_; clear n0_ n1_ n2_ n3_ n4_ n5_ n6_ n7_ n8_ n9_ n10_ n11_ hb hbox hg; have hnb12 := NB115_101.out; have hnc12 := NB101_115.out; have hnb13 := NB115_102.out; have hnc13 := NB102_115.out; obtain ⟨hcz14_0, hcz14_1, hcz14_2, hcz14_3, hfz14_0, hfz14_1, hfz14_2, hfz14_3⟩ := YA BK115.out; obtain ⟨Ao15, co15, eo15⟩ := Kd.R_slice HO107.out; subst eo15; obtain ⟨Ao16, co16, eo16⟩ := Kd.N_slice HO110.out; subst eo16) | ((with_reducible refine Yn (f := 56) rfl ?_); refine YO (some 17) rfl rfl Tryd.func56 Z6 rfl #[.pointer (some ⟨gb102, 0, none⟩)] rfl Z0 ?_; (with_reducible refine (Yd.calls k gb102 t111 t112 t113 t114 t116 t117 t118 t119 t120 w _ ?side1 ?side2 A6.out).mono ?_); (case side1 => exact QI81_102); (case side2 => exact QB); rintro e w17 ⟨rfl, hi, hb, hk⟩; refine ⟨_, rfl, ?_⟩; have n0_ := Y0.mk (Y1.blk hk (g' := gb101) (o := .cells #[.int .i64 0, .string (⟨#[]⟩ : ByteArray), .slice none 0 0, .slice none 0 0] 37 (0, 0)) Zc NB101_102.out (by simp)); have n1_ := Y0.mk (Kd.R_mono (Kd.R_keep (YB.apart (show YB w _ gb102 t111 t112 t113 t114 from QI81_102) (by (with_reducible repeat (first | apply Kd.R_alloc | apply Kd.R_drewN | apply Kd.R_drew)); exact (Kd.R_mono (Kd.R_far (p := ⟨gb115, 3, none⟩) (Kd.R_far (p := ⟨gb115, 2, none⟩) (Kd.R_far (p := ⟨gb115, 1, none⟩) (Kd.R_far (p := ⟨gb115, 0, none⟩) (Kd.R_types HO107.out BK115.out (by decide)) (fun _ hk => hk.2) (.int .i64 t103)) (fun _ hk => hk.2) (.string t104)) (fun _ hk => hk.2) (.slice Ao15 t105.length co15)) (fun _ hk => hk.2) (.slice Ao16 t108.length co16)) (fun _ h_ => h_.1))) (by decide)) hk (fun _ h => h.2)) (fun _ h => h.1)); have n2_ := Y0.mk (Kd.N_mono (Kd.N_keep (Kd.N_mono (ok := fun k_ => ((((w.heap.size ≤ k_)) ∧ (some k_ ≠ (.slice Ao15 t105.length co15 : Value).ownBlock ∧ (k_ ≠ gb101 ∧ k_ ≠ gb102))) ∧ k_ ≠ gb115)) (by (with_reducible repeat (first | apply Kd.N_alloc | apply Kd.N_drewN | apply Kd.N_drew)); exact (Kd.N_mono (Kd.N_far (p := ⟨gb115, 3, none⟩) (Kd.N_far (p := ⟨gb115, 2, none⟩) (Kd.N_far (p := ⟨gb115, 1, none⟩) (Kd.N_far (p := ⟨gb115, 0, none⟩) (Kd.N_mono HO110.out (fun k_ hk => (⟨hk, hk.2⟩ : _ ∧ k_ ≠ gb115))) (fun _ hk => hk.2) (.int .i64 t103)) (fun _ hk => hk.2) (.string t104)) (fun _ hk => hk.2) (.slice Ao15 t105.length co15)) (fun _ hk => hk.2) (.slice Ao16 t108.length co16)) (fun _ h_ => h_.1))) (fun k_ hk_ => (⟨hk_, hk_.1.2.2.2⟩ : _ ∧ k_ ≠ gb102))) hk (fun _ h => h.2)) (fun _ h => h.1)); have n3_ := Y0.mk (Y1.blk hk (g' := gb115) (o := .cells #[.int .i64 t103, .string t104, .slice Ao15 t105.length co15, .slice Ao16 t108.length co16] 37 (0, 0)) Z2p NB115_102.out (by simp)); have n4_ := Y0.mk (hb); have n5_ := Y0.mk (hi); clear BK101 HO107 HO110 BK115 HB HI102; have BK101 := n0_; have HO107 := n1_; have HO110 := n2_; have BK115 := n3_; have HB := n4_; have HI102 := n5_; clear n0_ n1_ n2_ n3_ n4_ n5_; (try clear hb); (try clear hb2); (try clear hk); (try clear hi)))
  (try simp only [Act.put, List.setIfInBounds_toArray, List.set_cons_zero, List.set_cons_succ])
  go_cut [31] (fun v31 wc => ∃ (kq : Nat) (x31_6 : Bool), v31 = .bool x31_6 ∧ Y0 (YC.j0 kq a0 x31_6 t117 t118 t119 t120 t103 t104 t105 t108 = some (r1, r2, r3, r4, r5, r6)) ∧ Y0 (kq ≤ k) ∧ Y0 (Kd.R Kd.string 9 wc w.heap.size (fun k_ => (w.heap.size ≤ k_)) (.slice Ao15 t105.length co15) t105) ∧ Y0 (Kd.N k37 37 wc w.heap.size (fun k_ => (w.heap.size ≤ k_) ∧ some k_ ≠ ((.slice Ao15 t105.length co15) : Value).ownBlock ∧ k_ ≠ gb101 ∧ k_ ≠ gb115 ∧ k_ ≠ gb102) (.slice Ao16 t108.length co16) t108) ∧ Y0 (wc.heap[gb101]? = some (.cells #[.int .i64 0, .string (⟨#[]⟩ : ByteArray), (.slice none 0 0), (.slice none 0 0)] 37 (0, 0))) ∧ Y0 (wc.heap[gb115]? = some (.cells #[.int .i64 t103, .string t104, (.slice Ao15 t105.length co15), (.slice Ao16 t108.length co16)] 37 (0, 0))) ∧ Y0 (YB w wc gb102 t117 t118 t119 t120) ∧ Y0 (Below w.heap.size w wc))
  case first =>
   have H := HC7.out
   clear HC7
   by_cases c18 : t119 = 0
   ·rw [if_pos c18] at H
    have c18b0 : (t119 == 0) = true := beq_iff_eq.mpr c18
    have c18b1 : (t119 != 0) = false := bne_eq_false_iff_eq.mpr c18
    clear c18
    (first | rw [c18b0] | (simp only [Y16, Y17]; rw [c18b0]) | skip)
    have H' := Y0.mk H
    clear H
    obtain ⟨hcz19_0, hcz19_1, hcz19_2, hcz19_3, hfz19_0, hfz19_1, hfz19_2, hfz19_3⟩ := YA HI102.out.1
    go_wp2
    go_meet
    case rel => exact ⟨_, (decide (t118 < (a0.size : Int))), Z7, H', ⟨Zr⟩, ⟨ZR⟩, ⟨ZE⟩, ⟨Z4⟩, ⟨Z14⟩, ⟨QI81_102⟩, ⟨QB⟩⟩
   ·rw [if_neg c18] at H
    have c18b0 : (t119 == 0) = false := beq_eq_false_iff_ne.mpr c18
    have c18b1 : (t119 != 0) = true := bne_iff_ne.mpr c18
    (first | rw [c18b0] | (simp only [Y16, Y17]; rw [c18b0]) | skip)
    have H' := Y0.mk H
    clear H
    obtain ⟨hcz20_0, hcz20_1, hcz20_2, hcz20_3, hfz20_0, hfz20_1, hfz20_2, hfz20_3⟩ := YA HI102.out.1
    go_wp2
    go_meet
    case rel => exact ⟨_, (false), Z7, H', ⟨Zr⟩, ⟨ZR⟩, ⟨ZE⟩, ⟨Z4⟩, ⟨Z14⟩, ⟨QI81_102⟩, ⟨QB⟩⟩
  case rest =>
   clear HC7
   try clear c1
   try clear c2
   try clear c2b0
   try clear c2b1
   try clear p2
   try clear c5
   try clear c12
   try clear c13
   try clear c18
   try clear c18b0
   try clear c18b1
   try clear hcz14_0 hcz14_1 hcz14_2 hcz14_3
   try clear hcz19_0 hcz19_1 hcz19_2 hcz19_3
   try clear hcz20_0 hcz20_1 hcz20_2 hcz20_3
   try clear hcz4_0 hcz4_1 hcz4_2 hcz4_3
   try clear hfz14_0
   try clear hfz14_1
   try clear hfz14_2
   try clear hfz14_3
   try clear hfz19_0
   try clear hfz19_1
   try clear hfz19_2
   try clear hfz19_3
   try clear hfz20_0
   try clear hfz20_1
   try clear hfz20_2
   try clear hfz20_3
   try clear hfz4_0
   try clear hfz4_1
   try clear hfz4_2
   try clear hfz4_3
   obtain ⟨kq, x31_6, rfl, HA, HJ6, HO_116002, HO_116003, BK101, BK115, HI102, HB⟩ := hcut
   cases kq with
   | zero => exact absurd HA.out (by simp [YC.j0])
   | succ kj6 =>
    have H := HA.out
    clear HA
    simp only [YC.j0] at H
    by_cases c21 : x31_6 = true
    ·subst c21
     have H1 : ((Yt.f t117 t118 t119 t120 t118 2).bind fun bt121 => (if bt121.2.2.2.2.2.2.1 = 0 then (some (t103, t104, t105, t108, (a0.size : Int), 0)) else (some (0, (⟨#[]⟩ : ByteArray), ([] : List ByteArray), ([] : List (S37)), bt121.2.2.2.2.2.2.2, bt121.2.2.2.2.2.2.1)))) = some (r1, r2, r3, r4, r5, r6) := by rw [if_pos rfl] at H; exact H
     clear H
     have H := H1
     clear H1
     replace H := Option.bind_eq_some_iff.mp H
     obtain ⟨⟨t121, t122, t123, t126, t129, t130, t131, t132⟩, A220, H⟩ := H
     replace H : (if t131 = 0 then (some (t103, t104, t105, t108, (a0.size : Int), 0)) else (some (0, (⟨#[]⟩ : ByteArray), ([] : List ByteArray), ([] : List (S37)), t132, t131))) = some (r1, r2, r3, r4, r5, r6) := H
     have A22 := Y0.mk A220
     clear A220
     by_cases c23 : t131 = 0
     ·rw [if_pos c23] at H
      have c23b0 : (t131 == 0) = true := beq_iff_eq.mpr c23
      have c23b1 : (t131 != 0) = false := bne_eq_false_iff_eq.mpr c23
      clear c23
      simp only [Option.some.injEq, Prod.mk.injEq] at H
      obtain ⟨rfl, rfl, rfl, rfl, rfl, rfl⟩ := H
      obtain ⟨hcz24_0, hcz24_1, hcz24_2, hcz24_3, hfz24_0, hfz24_1, hfz24_2, hfz24_3⟩ := YA HI102.out.1
      go_wp2_with (first | ((with_reducible refine Yn (f := 57) rfl ?_); refine YO (some 37) rfl rfl Tryd.func57 Z6 rfl #[.pointer (some ⟨gb102, 0, none⟩), .int .i64 t118, .int .i64 2] rfl Z0 ?_; (with_reducible refine (Yt.calls gb102 t117 t118 t119 t120 t118 2 t121 t122 t123 t126 t129 t130 t131 t132 w _ ?side1 ?side2 A22.out).mono ?_); (case side1 => exact QI81_102); (case side2 => exact QB); rintro e w25 ⟨v124, v127, rfl, ho0, ho1, hi, hb, hk⟩; refine ⟨_, rfl, ?_⟩; have n0_ := Y0.mk (Kd.R_mono (Kd.R_told (Kd.R_oldK (YB.apart (show YB w _ gb102 t117 t118 t119 t120 from QI81_102) Zb (by decide)) hk) (Kd.R_base ho0)) (fun _ h_ => h_.1)); have n1_ := Y0.mk (Kd.N_mono (Kd.N_told (Kd.N_told (Kd.N_oldK (Kd.N_mono (ok := fun k_ => (((w.heap.size ≤ k_)) ∧ (some k_ ≠ (.slice Ao15 t105.length co15 : Value).ownBlock ∧ (k_ ≠ gb101 ∧ (k_ ≠ gb115 ∧ k_ ≠ gb102))))) Ze (fun k_ hk_ => (⟨hk_, hk_.2.2.2.2⟩ : _ ∧ k_ ≠ gb102))) hk) (Kd.R_base ho0)) (Kd.N_base ho1)) (fun _ h_ => h_.1)); have n2_ := Y0.mk (Y1.blk hk (g' := gb101) (o := .cells #[.int .i64 0, .string (⟨#[]⟩ : ByteArray), .slice none 0 0, .slice none 0 0] 37 (0, 0)) QQ NB101_102.out (by simp)); have n3_ := Y0.mk (Y1.blk hk (g' := gb115) (o := .cells #[.int .i64 t103, .string t104, .slice Ao15 t105.length co15, .slice Ao16 t108.length co16] 37 (0, 0)) QQ NB115_102.out (by simp)); have n4_ := Y0.mk (Kd.R_lower (Kd.R_new' (Kd.R_newM (M := fun k_ => (w.heap.size ≤ k_)) (Kd.R_mono (ok' := fun k_ => True) ho0 (fun _ hk_ => trivial)) (Ym QB) (fun k_ h_ => h_)) (Kd.R_lt Zb)) (Ym QB)); have n5_ := Y0.mk (Kd.N_lower (Kd.N_mono (ok' := fun k_ => (w.heap.size ≤ k_) ∧ some k_ ≠ (v124 : Value).ownBlock ∧ some k_ ≠ (.slice Ao15 t105.length co15 : Value).ownBlock ∧ some k_ ≠ (.slice Ao16 t108.length co16 : Value).ownBlock ∧ k_ ≠ gb101 ∧ k_ ≠ gb115 ∧ k_ ≠ gb102) ho1 (fun k_ hk_ => ⟨(Nat.le_trans (Ym QB) hk_.1), hk_.2, (Kd.fresh' (Kd.R_lt Zb) k_ hk_.1), (Kd.fresh' (Kd.N_lt Ze) k_ hk_.1), (Kd.freshB (g := gb101) (o := .cells #[.int .i64 0, .string (⟨#[]⟩ : ByteArray), .slice none 0 0, .slice none 0 0] 37 (0, 0)) QQ k_ hk_.1), (Kd.freshB (g := gb115) (o := .cells #[.int .i64 t103, .string t104, .slice Ao15 t105.length co15, .slice Ao16 t108.length co16] 37 (0, 0)) QQ k_ hk_.1), (YB.fresh QI81_102 k_ hk_.1)⟩)) (Ym QB)); have n6_ := Y0.mk (hb); have n7_ := Y0.mk (hi); clear HO_116002 HO_116003 BK101 BK115 HB HI102; have HO_116002 := n0_; have HO_116003 := n1_; have BK101 := n2_; have BK115 := n3_; have HO125 := n4_; have HO128 := n5_; have HB := n6_; have HI102 := n7_; clear n0_ n1_ n2_ n3_ n4_ n5_ n6_ n7_; (try clear hb); (try clear hb2); (try clear hk); (try clear hi); (try clear ho0); (try clear ho1); obtain ⟨HGz26, hgz26⟩ := HI102.out; have hcz26_0 := Y1r HGz26; have hcz26_1 := Y1s HGz26; have hcz26_2 := Y1t HGz26; have hcz26_3 := Y1u HGz26; have hfz26_0 := Y7 HGz26 0; have hfz26_1 := Y7 HGz26 1; have hfz26_2 := Y7 HGz26 2; have hfz26_3 := Y7 HGz26 3; clear HGz26 hgz26; have hnb27 := NB115_101.out; have hnc27 := NB101_115.out; have hnb28 := NB115_102.out; have hnc28 := NB102_115.out; obtain ⟨hcz29_0, hcz29_1, hcz29_2, hcz29_3, hfz29_0, hfz29_1, hfz29_2, hfz29_3⟩ := YA BK115.out; have hnb30 := NB101_102.out; have hnc30 := NB102_101.out; obtain ⟨hcz31_0, hcz31_1, hcz31_2, hcz31_3, hfz31_0, hfz31_1, hfz31_2, hfz31_3⟩ := YA BK101.out))
      refine bodyPost_ret (Y1O rfl _ _ gb101 37 #[.int .i64 t103, .string t104, .slice Ao15 t105.length co15, .slice Ao16 t108.length co16] (0, 0) _ rfl Z2p Tryd.underlying37 rfl Z6) rfl ?_
      exact ⟨_, _, Z2, by (with_reducible repeat (first | apply Kd.R_alloc | apply Kd.R_drewN | apply Kd.R_drew)); exact Kd.R_mono (Kd.R_far (p := ⟨gb101, 3, none⟩) (Kd.R_far (p := ⟨gb101, 2, none⟩) (Kd.R_far (p := ⟨gb101, 1, none⟩) (Kd.R_far (p := ⟨gb101, 0, none⟩) (Kd.R_types HO_116002.out BK101.out (by decide)) (fun _ hk => hk.2) (.int .i64 t103)) (fun _ hk => hk.2) (.string t104)) (fun _ hk => hk.2) (.slice Ao15 t105.length co15)) (fun _ hk => hk.2) (.slice Ao16 t108.length co16)) (fun _ hk => hk.1.1), by (with_reducible repeat (first | apply Kd.N_alloc | apply Kd.N_drewN | apply Kd.N_drew)); exact Kd.N_mono (Kd.N_far (p := ⟨gb101, 3, none⟩) (Kd.N_far (p := ⟨gb101, 2, none⟩) (Kd.N_far (p := ⟨gb101, 1, none⟩) (Kd.N_far (p := ⟨gb101, 0, none⟩) (Kd.N_mono HO_116003.out (fun k_ hk => (⟨hk, hk.1.1.2.2.1⟩ : _ ∧ k_ ≠ gb101))) (fun _ hk => hk.2) (.int .i64 t103)) (fun _ hk => hk.2) (.string t104)) (fun _ hk => hk.2) (.slice Ao15 t105.length co15)) (fun _ hk => hk.2) (.slice Ao16 t108.length co16)) (fun _ hk => ⟨hk.1.1.1.1, hk.1.1.1.2.1⟩), QB⟩
     ·rw [if_neg c23] at H
      have c23b0 : (t131 == 0) = false := beq_eq_false_iff_ne.mpr c23
      have c23b1 : (t131 != 0) = true := bne_iff_ne.mpr c23
      simp only [Option.some.injEq, Prod.mk.injEq] at H
      obtain ⟨rfl, rfl, rfl, rfl, rfl, rfl⟩ := H
      obtain ⟨hcz32_0, hcz32_1, hcz32_2, hcz32_3, hfz32_0, hfz32_1, hfz32_2, hfz32_3⟩ := YA HI102.out.1
      try go_wp2_with (first | ((with_reducible refine Yn (f := 57) rfl ?_); refine YO (some 37) rfl rfl Tryd.func57 Z6 rfl #[.pointer (some ⟨gb102, 0, none⟩), .int .i64 t118, .int .i64 2] rfl Z0 ?_; (with_reducible refine (Yt.calls gb102 t117 t118 t119 t120 t118 2 t121 t122 t123 t126 t129 t130 t131 t132 w _ ?side1 ?side2 A22.out).mono ?_); (case side1 => exact QI81_102); (case side2 => exact QB); rintro e w33 ⟨v124, v127, rfl, ho0, ho1, hi, hb, hk⟩; refine ⟨_, rfl, ?_⟩; have n0_ := Y0.mk (Kd.R_mono (Kd.R_told (Kd.R_oldK (YB.apart (show YB w _ gb102 t117 t118 t119 t120 from QI81_102) Zb (by decide)) hk) (Kd.R_base ho0)) (fun _ h_ => h_.1)); have n1_ := Y0.mk (Kd.N_mono (Kd.N_told (Kd.N_told (Kd.N_oldK (Kd.N_mono (ok := fun k_ => (((w.heap.size ≤ k_)) ∧ (some k_ ≠ (.slice Ao15 t105.length co15 : Value).ownBlock ∧ (k_ ≠ gb101 ∧ (k_ ≠ gb115 ∧ k_ ≠ gb102))))) Ze (fun k_ hk_ => (⟨hk_, hk_.2.2.2.2⟩ : _ ∧ k_ ≠ gb102))) hk) (Kd.R_base ho0)) (Kd.N_base ho1)) (fun _ h_ => h_.1)); have n2_ := Y0.mk (Y1.blk hk (g' := gb101) (o := .cells #[.int .i64 0, .string (⟨#[]⟩ : ByteArray), .slice none 0 0, .slice none 0 0] 37 (0, 0)) QQ NB101_102.out (by simp)); have n3_ := Y0.mk (Y1.blk hk (g' := gb115) (o := .cells #[.int .i64 t103, .string t104, .slice Ao15 t105.length co15, .slice Ao16 t108.length co16] 37 (0, 0)) QQ NB115_102.out (by simp)); have n4_ := Y0.mk (Kd.R_lower (Kd.R_new' (Kd.R_newM (M := fun k_ => (w.heap.size ≤ k_)) (Kd.R_mono (ok' := fun k_ => True) ho0 (fun _ hk_ => trivial)) (Ym QB) (fun k_ h_ => h_)) (Kd.R_lt Zb)) (Ym QB)); have n5_ := Y0.mk (Kd.N_lower (Kd.N_mono (ok' := fun k_ => (w.heap.size ≤ k_) ∧ some k_ ≠ (v124 : Value).ownBlock ∧ some k_ ≠ (.slice Ao15 t105.length co15 : Value).ownBlock ∧ some k_ ≠ (.slice Ao16 t108.length co16 : Value).ownBlock ∧ k_ ≠ gb101 ∧ k_ ≠ gb115 ∧ k_ ≠ gb102) ho1 (fun k_ hk_ => ⟨(Nat.le_trans (Ym QB) hk_.1), hk_.2, (Kd.fresh' (Kd.R_lt Zb) k_ hk_.1), (Kd.fresh' (Kd.N_lt Ze) k_ hk_.1), (Kd.freshB (g := gb101) (o := .cells #[.int .i64 0, .string (⟨#[]⟩ : ByteArray), .slice none 0 0, .slice none 0 0] 37 (0, 0)) QQ k_ hk_.1), (Kd.freshB (g := gb115) (o := .cells #[.int .i64 t103, .string t104, .slice Ao15 t105.length co15, .slice Ao16 t108.length co16] 37 (0, 0)) QQ k_ hk_.1), (YB.fresh QI81_102 k_ hk_.1)⟩)) (Ym QB)); have n6_ := Y0.mk (hb); have n7_ := Y0.mk (hi); clear HO_116002 HO_116003 BK101 BK115 HB HI102; have HO_116002 := n0_; have HO_116003 := n1_; have BK101 := n2_; have BK115 := n3_; have HO125 := n4_; have HO128 := n5_; have HB := n6_; have HI102 := n7_; clear n0_ n1_ n2_ n3_ n4_ n5_ n6_ n7_; (try clear hb); (try clear hb2); (try clear hk); (try clear hi); (try clear ho0); (try clear ho1); obtain ⟨HGz34, hgz34⟩ := HI102.out; have hcz34_0 := Y1r HGz34; have hcz34_1 := Y1s HGz34; have hcz34_2 := Y1t HGz34; have hcz34_3 := Y1u HGz34; have hfz34_0 := Y7 HGz34 0; have hfz34_1 := Y7 HGz34 1; have hfz34_2 := Y7 HGz34 2; have hfz34_3 := Y7 HGz34 3; clear HGz34 hgz34))
      have n_ := Y4q (Kd.R_drew HO_116002.out) (Kd.N_drew HO_116003.out) (Kd.R_drew HO125.out) (Kd.N_drew HO128.out) (Ya BK101.out) (Ya BK115.out) (YB.drew HI102.out) (YP HB.out)
      clear HO_116002
      clear HO_116003
      clear HO125
      clear HO128
      clear BK101
      clear BK115
      clear HI102
      clear HB
      obtain ⟨HO_116002, HO_116003, HO125, HO128, BK101, BK115, HI102, HB⟩ := n_
      refine Y1l (n := 12) (S := fun w' => w'.cell? ⟨gb102, 0, none⟩ = some (.string t129) ∧ w'.cell? ⟨gb102, 1, none⟩ = some (.int .i64 t130) ∧ w'.cell? ⟨gb102, 2, none⟩ = some (.int .i64 t131) ∧ w'.cell? ⟨gb102, 3, none⟩ = some (.int .i64 t132)) (ds := []) Y4x Z6 rfl rfl ⟨Y1r HI102.out.1, Y1s HI102.out.1, Y1t HI102.out.1, Y1u HI102.out.1⟩ (fun hHeld => ?_); refine YW YC.tab9 YC.bits9 (fun HT_ HW_ => ?_)
      generalize w33.drew = w35 at HO_116002 HO_116003 HO125 HO128 BK101 BK115 HI102 HB hHeld ⊢
      refine pY 0 43 Y4y ?_
      refine pY 1 44 Y5y ?_
      refine pY 2 45 Y5z ?_
      refine pY 3 46 Y6d ?_
      refine pY 5 48 Y5d ?_
      refine pY 6 49 Y5e ?_
      refine pY 7 50 Y5f ?_
      refine pT 4 47 Y4a ?_
      refine pT 8 51 Y3E ?_
      refine Y2T (i := 9) (N := none) Y3b rfl rfl (Y1j HT_.out Z6) (by decide) (fun K hK => ?_)
      have hs36 : w35.cell? ⟨gb101, 0, none⟩ = some (.int .i64 0) := (Y2 BK101.out 0).trans rfl
      have hfs36 := Y7 BK101.out 0
      have hns36_1 := NB115_101.out
      have hms36_1 := NB101_115.out
      have hs37 : w35.cell? ⟨gb101, 1, none⟩ = some (.string (⟨#[]⟩ : ByteArray)) := (Y2 BK101.out 1).trans rfl
      have hfs37 := Y7 BK101.out 1
      have hns37_1 := NB115_101.out
      have hms37_1 := NB101_115.out
      have hs38 : w35.cell? ⟨gb101, 2, none⟩ = some (.slice none 0 0) := (Y2 BK101.out 2).trans rfl
      have hfs38 := Y7 BK101.out 2
      have hns38_1 := NB115_101.out
      have hms38_1 := NB101_115.out
      have hs39 : w35.cell? ⟨gb101, 3, none⟩ = some (.slice none 0 0) := (Y2 BK101.out 3).trans rfl
      have hfs39 := Y7 BK101.out 3
      have hns39_1 := NB115_101.out
      have hms39_1 := NB101_115.out
      refine Y4V (w1 := ?_) (by rfl) rfl ?_ ?_
      rotate_left
      ·go_simp
       rfl
      refine hK.out _ _ ⟨((YQ (p := ⟨gb101, _, none⟩) NB102_101.out _).trans (((YQ (p := ⟨gb101, _, none⟩) NB102_101.out _).trans (((YQ (p := ⟨gb101, _, none⟩) NB102_101.out _).trans (((YQ (p := ⟨gb101, _, none⟩) NB102_101.out _).trans (hHeld.1)))))))), ((YQ (p := ⟨gb101, _, none⟩) NB102_101.out _).trans (((YQ (p := ⟨gb101, _, none⟩) NB102_101.out _).trans (((YQ (p := ⟨gb101, _, none⟩) NB102_101.out _).trans (((YQ (p := ⟨gb101, _, none⟩) NB102_101.out _).trans (hHeld.2.1)))))))), ((YQ (p := ⟨gb101, _, none⟩) NB102_101.out _).trans (((YQ (p := ⟨gb101, _, none⟩) NB102_101.out _).trans (((YQ (p := ⟨gb101, _, none⟩) NB102_101.out _).trans (((YQ (p := ⟨gb101, _, none⟩) NB102_101.out _).trans (hHeld.2.2.1)))))))), ((YQ (p := ⟨gb101, _, none⟩) NB102_101.out _).trans (((YQ (p := ⟨gb101, _, none⟩) NB102_101.out _).trans (((YQ (p := ⟨gb101, _, none⟩) NB102_101.out _).trans (((YQ (p := ⟨gb101, _, none⟩) NB102_101.out _).trans (hHeld.2.2.2))))))))⟩ (fun hHeld => ?_)
      clear hK K
      refine pY 10 3 Y3c ?_
      refine pY 11 4 Y3d ?_
      refine Y1Q (Y1a HT_.out Z6) ?_
      try go_wp2
      refine bodyPost_ret (Y1O rfl _ _ gb101 37 #[.int .i64 0, .string (⟨#[]⟩ : ByteArray), .slice none 0 0, .slice none 0 0] (0, 0) _ rfl Z1W Tryd.underlying37 rfl Z6) rfl ?_
      exact Z2k
    ·replace c21 := Bool.eq_false_iff.mpr c21
     subst c21
     have H1 : (if t119 = 0 then (some (t103, t104, t105, t108, (a0.size : Int), 0)) else (some (0, (⟨#[]⟩ : ByteArray), ([] : List ByteArray), ([] : List (S37)), t120, t119))) = some (r1, r2, r3, r4, r5, r6) := by rw [if_neg (show ¬ (false = true) by decide)] at H; exact H
     clear H
     have H := H1
     clear H1
     by_cases c40 : t119 = 0
     ·rw [if_pos c40] at H
      have c40b0 : (t119 == 0) = true := beq_iff_eq.mpr c40
      have c40b1 : (t119 != 0) = false := bne_eq_false_iff_eq.mpr c40
      clear c40
      simp only [Option.some.injEq, Prod.mk.injEq] at H
      obtain ⟨rfl, rfl, rfl, rfl, rfl, rfl⟩ := H
      obtain ⟨hcz41_0, hcz41_1, hcz41_2, hcz41_3, hfz41_0, hfz41_1, hfz41_2, hfz41_3⟩ := YA HI102.out.1
      have hnb42 := NB115_101.out
      have hnc42 := NB101_115.out
      have hnb43 := NB115_102.out
      have hnc43 := NB102_115.out
      obtain ⟨hcz44_0, hcz44_1, hcz44_2, hcz44_3, hfz44_0, hfz44_1, hfz44_2, hfz44_3⟩ := YA BK115.out
      have hnb45 := NB101_102.out
      have hnc45 := NB102_101.out
      obtain ⟨hcz46_0, hcz46_1, hcz46_2, hcz46_3, hfz46_0, hfz46_1, hfz46_2, hfz46_3⟩ := YA BK101.out
      go_wp2
      refine bodyPost_ret (Y1O rfl _ _ gb101 37 #[.int .i64 t103, .string t104, .slice Ao15 t105.length co15, .slice Ao16 t108.length co16] (0, 0) _ rfl Z2p Tryd.underlying37 rfl Z6) rfl ?_
      exact ⟨_, _, Z2, by (with_reducible repeat (first | apply Kd.R_alloc | apply Kd.R_drewN | apply Kd.R_drew)); exact Kd.R_mono (Kd.R_far (p := ⟨gb101, 3, none⟩) (Kd.R_far (p := ⟨gb101, 2, none⟩) (Kd.R_far (p := ⟨gb101, 1, none⟩) (Kd.R_far (p := ⟨gb101, 0, none⟩) (Kd.R_types HO_116002.out BK101.out (by decide)) (fun _ hk => hk.2) (.int .i64 t103)) (fun _ hk => hk.2) (.string t104)) (fun _ hk => hk.2) (.slice Ao15 t105.length co15)) (fun _ hk => hk.2) (.slice Ao16 t108.length co16)) (fun _ hk => hk.1), by (with_reducible repeat (first | apply Kd.N_alloc | apply Kd.N_drewN | apply Kd.N_drew)); exact Kd.N_mono (Kd.N_far (p := ⟨gb101, 3, none⟩) (Kd.N_far (p := ⟨gb101, 2, none⟩) (Kd.N_far (p := ⟨gb101, 1, none⟩) (Kd.N_far (p := ⟨gb101, 0, none⟩) (Kd.N_mono HO_116003.out (fun k_ hk => (⟨hk, hk.2.2.1⟩ : _ ∧ k_ ≠ gb101))) (fun _ hk => hk.2) (.int .i64 t103)) (fun _ hk => hk.2) (.string t104)) (fun _ hk => hk.2) (.slice Ao15 t105.length co15)) (fun _ hk => hk.2) (.slice Ao16 t108.length co16)) (fun _ hk => ⟨hk.1.1, hk.1.2.1⟩), QB⟩
     ·rw [if_neg c40] at H
      have c40b0 : (t119 == 0) = false := beq_eq_false_iff_ne.mpr c40
      have c40b1 : (t119 != 0) = true := bne_iff_ne.mpr c40
      simp only [Option.some.injEq, Prod.mk.injEq] at H
      obtain ⟨rfl, rfl, rfl, rfl, rfl, rfl⟩ := H
      obtain ⟨hcz47_0, hcz47_1, hcz47_2, hcz47_3, hfz47_0, hfz47_1, hfz47_2, hfz47_3⟩ := YA HI102.out.1
      try go_wp2
      have n_ := Y3w (Kd.R_drew HO_116002.out) (Kd.N_drew HO_116003.out) (Ya BK101.out) (Ya BK115.out) (YB.drew HI102.out) (YP HB.out)
      clear HO_116002
      clear HO_116003
      clear BK101
      clear BK115
      clear HI102
      clear HB
      obtain ⟨HO_116002, HO_116003, BK101, BK115, HI102, HB⟩ := n_
      refine Y1l (n := 12) (S := fun w' => w'.cell? ⟨gb102, 0, none⟩ = some (.string t117) ∧ w'.cell? ⟨gb102, 1, none⟩ = some (.int .i64 t118) ∧ w'.cell? ⟨gb102, 2, none⟩ = some (.int .i64 t119) ∧ w'.cell? ⟨gb102, 3, none⟩ = some (.int .i64 t120)) (ds := []) Y4x Z6 rfl rfl ⟨Y1r HI102.out.1, Y1s HI102.out.1, Y1t HI102.out.1, Y1u HI102.out.1⟩ (fun hHeld => ?_); refine YW YC.tab9 YC.bits9 (fun HT_ HW_ => ?_)
      generalize wc.drew = w48 at HO_116002 HO_116003 BK101 BK115 HI102 HB hHeld ⊢
      refine pY 0 43 Y4y ?_
      refine pY 1 44 Y5y ?_
      refine pY 2 45 Y5z ?_
      refine pY 3 46 Y6d ?_
      refine pY 5 48 Y5d ?_
      refine pY 6 49 Y5e ?_
      refine pY 7 50 Y5f ?_
      refine pT 4 47 Y4a ?_
      refine pT 8 51 Y3E ?_
      refine Y2T (i := 9) (N := none) Y3b rfl rfl (Y1j HT_.out Z6) (by decide) (fun K hK => ?_)
      have hs49 : w48.cell? ⟨gb101, 0, none⟩ = some (.int .i64 0) := (Y2 BK101.out 0).trans rfl
      have hfs49 := Y7 BK101.out 0
      have hns49_1 := NB115_101.out
      have hms49_1 := NB101_115.out
      have hs50 : w48.cell? ⟨gb101, 1, none⟩ = some (.string (⟨#[]⟩ : ByteArray)) := (Y2 BK101.out 1).trans rfl
      have hfs50 := Y7 BK101.out 1
      have hns50_1 := NB115_101.out
      have hms50_1 := NB101_115.out
      have hs51 : w48.cell? ⟨gb101, 2, none⟩ = some (.slice none 0 0) := (Y2 BK101.out 2).trans rfl
      have hfs51 := Y7 BK101.out 2
      have hns51_1 := NB115_101.out
      have hms51_1 := NB101_115.out
      have hs52 : w48.cell? ⟨gb101, 3, none⟩ = some (.slice none 0 0) := (Y2 BK101.out 3).trans rfl
      have hfs52 := Y7 BK101.out 3
      have hns52_1 := NB115_101.out
      have hms52_1 := NB101_115.out
      refine Y4V (w1 := ?_) (by rfl) rfl ?_ ?_
      rotate_left
      ·go_simp
       rfl
      refine hK.out _ _ ⟨((YQ (p := ⟨gb101, _, none⟩) NB102_101.out _).trans (((YQ (p := ⟨gb101, _, none⟩) NB102_101.out _).trans (((YQ (p := ⟨gb101, _, none⟩) NB102_101.out _).trans (((YQ (p := ⟨gb101, _, none⟩) NB102_101.out _).trans (hHeld.1)))))))), ((YQ (p := ⟨gb101, _, none⟩) NB102_101.out _).trans (((YQ (p := ⟨gb101, _, none⟩) NB102_101.out _).trans (((YQ (p := ⟨gb101, _, none⟩) NB102_101.out _).trans (((YQ (p := ⟨gb101, _, none⟩) NB102_101.out _).trans (hHeld.2.1)))))))), ((YQ (p := ⟨gb101, _, none⟩) NB102_101.out _).trans (((YQ (p := ⟨gb101, _, none⟩) NB102_101.out _).trans (((YQ (p := ⟨gb101, _, none⟩) NB102_101.out _).trans (((YQ (p := ⟨gb101, _, none⟩) NB102_101.out _).trans (hHeld.2.2.1)))))))), ((YQ (p := ⟨gb101, _, none⟩) NB102_101.out _).trans (((YQ (p := ⟨gb101, _, none⟩) NB102_101.out _).trans (((YQ (p := ⟨gb101, _, none⟩) NB102_101.out _).trans (((YQ (p := ⟨gb101, _, none⟩) NB102_101.out _).trans (hHeld.2.2.2))))))))⟩ (fun hHeld => ?_)
      clear hK K
      refine pY 10 3 Y3c ?_
      refine pY 11 4 Y3d ?_
      refine Y1Q (Y1a HT_.out Z6) ?_
      try go_wp2
      refine bodyPost_ret (Y1O rfl _ _ gb101 37 #[.int .i64 0, .string (⟨#[]⟩ : ByteArray), .slice none 0 0, .slice none 0 0] (0, 0) _ rfl Z1W Tryd.underlying37 rfl Z6) rfl ?_
      exact Z2k
mutual
def Y6.j0 : Nat → Bool → Int → ByteArray → List ByteArray → List (S37) → Int → ByteArray → List ByteArray → List (S37) → Option (Bool)
 | 0, _, _, _, _, _, _, _, _, _ => none
 | k + 1, x36, x102000, x102001, x102002, x102003, x103000, x103001, x103002, x103003 => if x36 = true then (some false) else (Y6.l0 k 0 x102000 x102001 x102002 x102003 x103000 x103001 x103002 x103003)
def Y6.l0 : Nat → Int → Int → ByteArray → List ByteArray → List (S37) → Int → ByteArray → List ByteArray → List (S37) → Option (Bool)
 | 0, _, _, _, _, _, _, _, _, _ => none
 | k + 1, x5, x102000, x102001, x102002, x102003, x103000, x103001, x103002, x103003 => if x5 < (x102002.length : Int) then (if 0 ≤ x5 then (if x5 < (x103002.length : Int) then (if (Y37 ByteArray.empty x102002 x5).toList = (Y37 ByteArray.empty x103002 x5).toList then (Y6.l0 k (wrap64 (x5 + 1)) x102000 x102001 x102002 x102003 x103000 x103001 x103002 x103003) else (some false)) else (none)) else (none)) else (Y6.l1 k 0 x102000 x102001 x102002 x102003 x103000 x103001 x103002 x103003)
def Y6.l1 : Nat → Int → Int → ByteArray → List ByteArray → List (S37) → Int → ByteArray → List ByteArray → List (S37) → Option (Bool)
 | 0, _, _, _, _, _, _, _, _, _ => none
 | k + 1, x6, x102000, x102001, x102002, x102003, x103000, x103001, x103002, x103003 => if x6 < (x102003.length : Int) then (if 0 ≤ x6 then (if x6 < (x103003.length : Int) then ((Y6.f k ((Yk x102003 x6).f0) ((Yk x102003 x6).f1) ((Yk x102003 x6).f2) ((Yk x102003 x6).f3) ((Yk x103003 x6).f0) ((Yk x103003 x6).f1) ((Yk x103003 x6).f2) ((Yk x103003 x6).f3)).bind fun t107 => (if t107 = true then (Y6.l1 k (wrap64 (x6 + 1)) x102000 x102001 x102002 x102003 x103000 x103001 x103002 x103003) else (some false))) else (none)) else (none)) else (some true)
def Y6.f : Nat → Int → ByteArray → List ByteArray → List (S37) → Int → ByteArray → List ByteArray → List (S37) → Option (Bool)
 | 0, _, _, _, _, _, _, _, _ => none
 | k + 1, a0_0, a0_1, l0_2, l0_3, a1_0, a1_1, l1_2, l1_3 => if a0_0 = a1_0 then (if a0_1.toList = a1_1.toList then (if (l0_2.length : Int) = (l1_2.length : Int) then (Y6.j0 k ((l0_3.length : Int) != (l1_3.length : Int)) a0_0 a0_1 l0_2 l0_3 a1_0 a1_1 l1_2 l1_3) else (Y6.j0 k true a0_0 a0_1 l0_2 l0_3 a1_0 a1_1 l1_2 l1_3)) else (Y6.j0 k true a0_0 a0_1 l0_2 l0_3 a1_0 a1_1 l1_2 l1_3)) else (Y6.j0 k true a0_0 a0_1 l0_2 l0_3 a1_0 a1_1 l1_2 l1_3)
end
def Y6.T6 : Bool × List (List Nat × List Nat) := (true, [([], []), ([0], [0]), ([], []), ([1, 2], [1, 2]), ([3], [3]), ([], []), ([5], [5]), ([], []), ([6, 7], [6, 7]), ([8], [8]), ([4, 9], [4, 9])])
def Y6.B6 : List Nat := [0, 1, 0, 7, 15, 0, 32, 0, 224, 480, 1023]
theorem Y6.tab6 : Y3G .any (Y3Z Tryd.f28 6) = Y6.T6 := by kernel_rfl
theorem Y6.bits6 : Y22 Y6.T6.2 Y6.B6 = true := by kernel_rfl
def Y6.T11 : Bool × List (List Nat × List Nat) := (true, [([], []), ([0], [0]), ([], []), ([1, 2], [1, 2]), ([3], [3]), ([], []), ([5], [5]), ([], []), ([6, 7], [6, 7]), ([8], [8]), ([4, 9], [4, 9]), ([10], [10])])
def Y6.B11 : List Nat := [0, 1, 0, 7, 15, 0, 32, 0, 224, 480, 1023, 2047]
theorem Y6.tab11 : Y3G .any (Y3Z Tryd.f28 11) = Y6.T11 := by kernel_rfl
theorem Y6.bits11 : Y22 Y6.T11.2 Y6.B11 = true := by kernel_rfl
set_option maxHeartbeats 8000000 in
set_option maxRecDepth 100000 in
theorem Y6.calls (k : Nat) : ∀ (a0_0 : Int) (a0_1 : ByteArray) (A0_2 : Option Addr) (c0_2 : Nat) (l0_2 : List ByteArray) (A0_3 : Option Addr) (c0_3 : Nat) (l0_3 : List (S37)) (a1_0 : Int) (a1_1 : ByteArray) (A1_2 : Option Addr) (c1_2 : Nat) (l1_2 : List ByteArray) (A1_3 : Option Addr) (c1_3 : Nat) (l1_3 : List (S37)) (r : Bool) (w : World) (hr0_2 : Kd.C Kd.string w A0_2 l0_2.length l0_2) (hc0_2 : l0_2.length ≤ c0_2) (hr0_3 : Kd.C k37 w A0_3 l0_3.length l0_3) (hc0_3 : l0_3.length ≤ c0_3) (hr1_2 : Kd.C Kd.string w A1_2 l1_2.length l1_2) (hc1_2 : l1_2.length ≤ c1_2) (hr1_3 : Kd.C k37 w A1_3 l1_3.length l1_3) (hc1_3 : l1_3.length ≤ c1_3) (h : Y6.f k a0_0 a0_1 l0_2 l0_3 a1_0 a1_1 l1_2 l1_3 = some r),
  Calls Tryd.prog 28 #[.agg #[.int .i64 a0_0, .string a0_1, .slice A0_2 l0_2.length c0_2, .slice A0_3 l0_3.length c0_3], .agg #[.int .i64 a1_0, .string a1_1, .slice A1_2 l1_2.length c1_2, .slice A1_3 l1_3.length c1_3]] w fun e w' => e = .returned (.bool r) ∧ Below w.heap.size w w' := by
 induction k using Nat.strongRecOn with
 | _ k ih =>
 intro a0_0 a0_1 A0_2 c0_2 l0_2 A0_3 c0_3 l0_3 a1_0 a1_1 A1_2 c1_2 l1_2 A1_3 c1_3 l1_3 r w hr0_2 hc0_2 hr0_3 hc0_3 hr1_2 hc1_2 hr1_3 hc1_3 h
 cases k with
 | zero => exact absurd h (by simp [Y6.f])
 | succ k =>
 simp only [Y6.f] at h
 have hu37 := Tryd.underlying37
 have HR0_2 := Y0.mk hr0_2
 have HC0_2 := Y0.mk hc0_2
 clear hr0_2 hc0_2
 have HR0_3 := Y0.mk hr0_3
 have HC0_3 := Y0.mk hc0_3
 clear hr0_3 hc0_3
 have HR1_2 := Y0.mk hr1_2
 have HC1_2 := Y0.mk hc1_2
 clear hr1_2 hc1_2
 have HR1_3 := Y0.mk hr1_3
 have HC1_3 := Y0.mk hc1_3
 clear hr1_3 hc1_3
 have HB := Y0.mk (Below.refl w.heap.size w)
 have H : (if a0_0 = a1_0 then (if a0_1.toList = a1_1.toList then (if (l0_2.length : Int) = (l1_2.length : Int) then (Y6.j0 k ((l0_3.length : Int) != (l1_3.length : Int)) a0_0 a0_1 l0_2 l0_3 a1_0 a1_1 l1_2 l1_3) else (Y6.j0 k true a0_0 a0_1 l0_2 l0_3 a1_0 a1_1 l1_2 l1_3)) else (Y6.j0 k true a0_0 a0_1 l0_2 l0_3 a1_0 a1_1 l1_2 l1_3)) else (Y6.j0 k true a0_0 a0_1 l0_2 l0_3 a1_0 a1_1 l1_2 l1_3)) = some r := h
 clear h
 have HC3 := Y0.mk H
 clear H
 go_enter Tryd.func28, Tryd.ntmps28
 go_upto_region 1 with (first | ((with_reducible refine YF (N := 2) rfl ?_); (try (refine YX (by rfl) ?_; dsimp only)); refine YE ?hg (N := 2) ?hd (cs := #[.int .i64 a0_0, .string a0_1, .slice A0_2 l0_2.length c0_2, .slice A0_3 l0_3.length c0_3]) (t := 37) ?hr ?_; (case hd => rfl); (case hg => rfl); (case hr => exact Za); intro gb101 hg w4 hbox hb; have n_ := Y31 (Yb QB hb) (hbox) ((by rw [hg]; exact (Ym QB) : w.heap.size ≤ gb101)) ((by rw [hg]; exact (Ym QB) : w.heap.size ≤ gb101)); clear HB; obtain ⟨HB, BK101, GW101, GE101⟩ := n_; clear hb hbox hg) | ((with_reducible refine YF (N := 3) rfl ?_); (try (refine YX (by rfl) ?_; dsimp only)); refine YE ?hg (N := 3) ?hd (cs := #[.int .i64 a1_0, .string a1_1, .slice A1_2 l1_2.length c1_2, .slice A1_3 l1_3.length c1_3]) (t := 37) ?hr ?_; (case hd => rfl); (case hg => rfl); (case hr => exact Za); intro gb102 hg w5 hbox hb; have n_ := put7 (Yu (g := gb101) (o := .cells #[.int .i64 a0_0, .string a0_1, .slice A0_2 l0_2.length c0_2, .slice A0_3 l0_3.length c0_3] 37 (0, 0)) QQ hb) (Yb QB hb) (hbox) ((by rw [hg]; exact (Ym QB) : w.heap.size ≤ gb102)) ((by rw [hg]; exact (Ym QB) : w.heap.size ≤ gb102)) ((by rw [hg]; exact Nat.ne_of_lt (Y15 (g := gb101) (o := .cells #[.int .i64 a0_0, .string a0_1, .slice A0_2 l0_2.length c0_2, .slice A0_3 l0_3.length c0_3] 37 (0, 0)) QQ) : gb101 ≠ gb102)) ((by rw [hg]; exact Nat.ne_of_gt (Y15 (g := gb101) (o := .cells #[.int .i64 a0_0, .string a0_1, .slice A0_2 l0_2.length c0_2, .slice A0_3 l0_3.length c0_3] 37 (0, 0)) QQ) : gb102 ≠ gb101)); clear BK101 HB; obtain ⟨BK101, HB, BK102, GW102, GE102, NB101_102, NB102_101⟩ := n_; clear hb hbox hg))
 (try simp only [Act.put, List.setIfInBounds_toArray, List.set_cons_zero, List.set_cons_succ])
 go_cut [36] (fun v36 wc => ∃ (kq : Nat) (x36_2 : Bool), v36 = .bool x36_2 ∧ Y0 (Y6.j0 kq x36_2 a0_0 a0_1 l0_2 l0_3 a1_0 a1_1 l1_2 l1_3 = some r) ∧ Y0 (kq ≤ k) ∧ Y0 (wc.heap[gb101]? = some (.cells #[.int .i64 a0_0, .string a0_1, (.slice A0_2 l0_2.length c0_2), (.slice A0_3 l0_3.length c0_3)] 37 (0, 0))) ∧ Y0 (wc.heap[gb102]? = some (.cells #[.int .i64 a1_0, .string a1_1, (.slice A1_2 l1_2.length c1_2), (.slice A1_3 l1_3.length c1_3)] 37 (0, 0))) ∧ Y0 (Below w.heap.size w wc))
 case first =>
  have H := HC3.out
  clear HC3
  by_cases c6 : a0_0 = a1_0
  ·rw [if_pos c6] at H
   have c6b0 : (a0_0 == a1_0) = true := beq_iff_eq.mpr c6
   have c6b1 : (a0_0 != a1_0) = false := bne_eq_false_iff_eq.mpr c6
   clear c6
   (first | rw [c6b0] | (simp only [Y16, Y17]; rw [c6b0]) | skip)
   by_cases c7 : a0_1.toList = a1_1.toList
   ·rw [if_pos c7] at H
    have c7b0 : (a0_1.toList == a1_1.toList) = true := beq_iff_eq.mpr c7
    have c7b1 : (a0_1.toList != a1_1.toList) = false := bne_eq_false_iff_eq.mpr c7
    clear c7
    by_cases c8 : (l0_2.length : Int) = (l1_2.length : Int)
    ·rw [if_pos c8] at H
     have c8b0 : ((l0_2.length : Int) == (l1_2.length : Int)) = true := beq_iff_eq.mpr c8
     have c8b1 : ((l0_2.length : Int) != (l1_2.length : Int)) = false := bne_eq_false_iff_eq.mpr c8
     have c8b2 : (l0_2.length == l1_2.length) = true := by first | simpa using c8 | (simp at c8 ⊢; omega)
     clear c8
     have H' := Y0.mk H
     clear H
     have hnb9 := NB101_102.out
     have hnc9 := NB102_101.out
     obtain ⟨hcz10_0, hcz10_1, hcz10_2, hcz10_3, hfz10_0, hfz10_1, hfz10_2, hfz10_3⟩ := YA BK101.out
     obtain ⟨hcz11_0, hcz11_1, hcz11_2, hcz11_3, hfz11_0, hfz11_1, hfz11_2, hfz11_3⟩ := YA BK102.out
     go_wp2
     go_meet
     case rel => exact ⟨_, (((l0_3.length : Int) != (l1_3.length : Int))), Z7, H', ⟨Zr⟩, ⟨Z4⟩, ⟨Zo⟩, ⟨QB⟩⟩
    ·rw [if_neg c8] at H
     have c8b0 : ((l0_2.length : Int) == (l1_2.length : Int)) = false := beq_eq_false_iff_ne.mpr c8
     have c8b1 : ((l0_2.length : Int) != (l1_2.length : Int)) = true := bne_iff_ne.mpr c8
     have c8b2 : (l0_2.length == l1_2.length) = false := by first | simpa using c8 | (simp at c8 ⊢; omega)
     have H' := Y0.mk H
     clear H
     have hnb12 := NB101_102.out
     have hnc12 := NB102_101.out
     obtain ⟨hcz13_0, hcz13_1, hcz13_2, hcz13_3, hfz13_0, hfz13_1, hfz13_2, hfz13_3⟩ := YA BK101.out
     obtain ⟨hcz14_0, hcz14_1, hcz14_2, hcz14_3, hfz14_0, hfz14_1, hfz14_2, hfz14_3⟩ := YA BK102.out
     go_wp2
     go_meet
     case rel => exact Z2l
   ·rw [if_neg c7] at H
    have c7b0 : (a0_1.toList == a1_1.toList) = false := beq_eq_false_iff_ne.mpr c7
    have c7b1 : (a0_1.toList != a1_1.toList) = true := bne_iff_ne.mpr c7
    have H' := Y0.mk H
    clear H
    have hnb15 := NB101_102.out
    have hnc15 := NB102_101.out
    obtain ⟨hcz16_0, hcz16_1, hcz16_2, hcz16_3, hfz16_0, hfz16_1, hfz16_2, hfz16_3⟩ := YA BK101.out
    obtain ⟨hcz17_0, hcz17_1, hcz17_2, hcz17_3, hfz17_0, hfz17_1, hfz17_2, hfz17_3⟩ := YA BK102.out
    go_wp2
    go_meet
    case rel => exact Z2l
  ·rw [if_neg c6] at H
   have c6b0 : (a0_0 == a1_0) = false := beq_eq_false_iff_ne.mpr c6
   have c6b1 : (a0_0 != a1_0) = true := bne_iff_ne.mpr c6
   (first | rw [c6b0] | (simp only [Y16, Y17]; rw [c6b0]) | skip)
   have H' := Y0.mk H
   clear H
   have hnb18 := NB101_102.out
   have hnc18 := NB102_101.out
   obtain ⟨hcz19_0, hcz19_1, hcz19_2, hcz19_3, hfz19_0, hfz19_1, hfz19_2, hfz19_3⟩ := YA BK101.out
   obtain ⟨hcz20_0, hcz20_1, hcz20_2, hcz20_3, hfz20_0, hfz20_1, hfz20_2, hfz20_3⟩ := YA BK102.out
   go_wp2
   go_meet
   case rel => exact Z2l
 case rest =>
  clear HC3
  try clear c1
  try clear c2
  try clear p2
  try clear c6
  try clear c6b0
  try clear c6b1
  try clear c7
  try clear c7b0
  try clear c7b1
  try clear c8
  try clear c8b0
  try clear c8b1
  try clear c8b2
  try clear c9
  try clear c12
  try clear c15
  try clear c18
  try clear hcz10_0 hcz10_1 hcz10_2 hcz10_3
  try clear hcz11_0 hcz11_1 hcz11_2 hcz11_3
  try clear hcz13_0 hcz13_1 hcz13_2 hcz13_3
  try clear hcz14_0 hcz14_1 hcz14_2 hcz14_3
  try clear hcz16_0 hcz16_1 hcz16_2 hcz16_3
  try clear hcz17_0 hcz17_1 hcz17_2 hcz17_3
  try clear hcz19_0 hcz19_1 hcz19_2 hcz19_3
  try clear hcz20_0 hcz20_1 hcz20_2 hcz20_3
  try clear hfz10_0
  try clear hfz10_1
  try clear hfz10_2
  try clear hfz10_3
  try clear hfz11_0
  try clear hfz11_1
  try clear hfz11_2
  try clear hfz11_3
  try clear hfz13_0
  try clear hfz13_1
  try clear hfz13_2
  try clear hfz13_3
  try clear hfz14_0
  try clear hfz14_1
  try clear hfz14_2
  try clear hfz14_3
  try clear hfz16_0
  try clear hfz16_1
  try clear hfz16_2
  try clear hfz16_3
  try clear hfz17_0
  try clear hfz17_1
  try clear hfz17_2
  try clear hfz17_3
  try clear hfz19_0
  try clear hfz19_1
  try clear hfz19_2
  try clear hfz19_3
  try clear hfz20_0
  try clear hfz20_1
  try clear hfz20_2
  try clear hfz20_3
  obtain ⟨kq, x36_2, rfl, HA, HJ2, BK101, BK102, HB⟩ := hcut
  cases kq with
  | zero => exact absurd HA.out (by simp [Y6.j0])
  | succ kj2 =>
   have H := HA.out
   clear HA
   simp only [Y6.j0] at H
   by_cases c21 : x36_2 = true
   ·subst c21
    have H1 : (some false) = some r := by rw [if_pos rfl] at H; exact H
    clear H
    have H := H1
    clear H1
    obtain rfl := Option.some.inj H
    go_wp2
    go_ret
    exact Z2d
   ·replace c21 := Bool.eq_false_iff.mpr c21
    subst c21
    have H1 : (Y6.l0 kj2 0 a0_0 a0_1 l0_2 l0_3 a1_0 a1_1 l1_2 l1_3) = some r := by rw [if_neg (show ¬ (false = true) by decide)] at H; exact H
    clear H
    have H := H1
    clear H1
    have H' := Y0.mk H
    clear H
    go_wp2
    go_loopg [5] kj2 (fun kq v5 w' => ∃ (x5_2 : Int), v5 = .int .i64 x5_2 ∧ Y0 (Y6.l0 kq x5_2 a0_0 a0_1 l0_2 l0_3 a1_0 a1_1 l1_2 l1_3 = some r) ∧ Y0 (kq ≤ kj2) ∧ Y0 (w'.heap[gb101]? = some (.cells #[.int .i64 a0_0, .string a0_1, (.slice A0_2 l0_2.length c0_2), (.slice A0_3 l0_3.length c0_3)] 37 (0, 0))) ∧ Y0 (w'.heap[gb102]? = some (.cells #[.int .i64 a1_0, .string a1_1, (.slice A1_2 l1_2.length c1_2), (.slice A1_3 l1_3.length c1_3)] 37 (0, 0))) ∧ Y0 (Below w.heap.size w w'))
    case atStart => exact ⟨(0), Z7, H', ⟨Nat.le_refl _⟩, ⟨Z4⟩, ⟨Zo⟩, ⟨QB⟩⟩
    case round =>
     clear H'
     try clear c1
     try clear c2
     try clear p2
     try clear c6
     try clear c6b0
     try clear c6b1
     try clear c7
     try clear c7b0
     try clear c7b1
     try clear c8
     try clear c8b0
     try clear c8b1
     try clear c8b2
     try clear c9
     try clear c12
     try clear c15
     try clear c18
     try clear c21
     try clear hcz10_0 hcz10_1 hcz10_2 hcz10_3
     try clear hcz11_0 hcz11_1 hcz11_2 hcz11_3
     try clear hcz13_0 hcz13_1 hcz13_2 hcz13_3
     try clear hcz14_0 hcz14_1 hcz14_2 hcz14_3
     try clear hcz16_0 hcz16_1 hcz16_2 hcz16_3
     try clear hcz17_0 hcz17_1 hcz17_2 hcz17_3
     try clear hcz19_0 hcz19_1 hcz19_2 hcz19_3
     try clear hcz20_0 hcz20_1 hcz20_2 hcz20_3
     try clear hfz10_0
     try clear hfz10_1
     try clear hfz10_2
     try clear hfz10_3
     try clear hfz11_0
     try clear hfz11_1
     try clear hfz11_2
     try clear hfz11_3
     try clear hfz13_0
     try clear hfz13_1
     try clear hfz13_2
     try clear hfz13_3
     try clear hfz14_0
     try clear hfz14_1
     try clear hfz14_2
     try clear hfz14_3
     try clear hfz16_0
     try clear hfz16_1
     try clear hfz16_2
     try clear hfz16_3
     try clear hfz17_0
     try clear hfz17_1
     try clear hfz17_2
     try clear hfz17_3
     try clear hfz19_0
     try clear hfz19_1
     try clear hfz19_2
     try clear hfz19_3
     try clear hfz20_0
     try clear hfz20_1
     try clear hfz20_2
     try clear hfz20_3
     try clear p2
     obtain ⟨x5_2, rfl, HA, HK2, BK101, BK102, HB⟩ := hrel
     cases gk with
     | zero => exact absurd HA.out (by simp [Y6.l0])
     | succ k2 =>
      have H := HA.out
      clear HA
      simp only [Y6.l0] at H
      by_cases c22 : x5_2 < (l0_2.length : Int)
      ·rw [if_pos c22] at H
       have c22b0 : decide (x5_2 < (l0_2.length : Int)) = true := decide_eq_true c22
       clear c22
       by_cases c23 : 0 ≤ x5_2
       ·rw [if_pos c23] at H
        have c23b0 : decide (0 ≤ x5_2) = true := decide_eq_true c23
        clear c23
        by_cases c24 : x5_2 < (l1_2.length : Int)
        ·rw [if_pos c24] at H
         have c24b0 : decide (x5_2 < (l1_2.length : Int)) = true := decide_eq_true c24
         clear c24
         by_cases c25 : (Y37 ByteArray.empty l0_2 x5_2).toList = (Y37 ByteArray.empty l1_2 x5_2).toList
         ·rw [if_pos c25] at H
          have c25b0 : ((Y37 ByteArray.empty l0_2 x5_2).toList == (Y37 ByteArray.empty l1_2 x5_2).toList) = true := beq_iff_eq.mpr c25
          have c25b1 : ((Y37 ByteArray.empty l0_2 x5_2).toList != (Y37 ByteArray.empty l1_2 x5_2).toList) = false := bne_eq_false_iff_eq.mpr c25
          clear c25
          have H' := Y0.mk H
          clear H
          have hnb26 := NB101_102.out
          have hnc26 := NB102_101.out
          obtain ⟨hcz27_0, hcz27_1, hcz27_2, hcz27_3, hfz27_0, hfz27_1, hfz27_2, hfz27_3⟩ := YA BK101.out
          try go_wp2
          have n_ := Y2Z (Ya BK101.out) (Ya BK102.out) (YP HB.out)
          clear BK101
          clear BK102
          clear HB
          obtain ⟨BK101, BK102, HB⟩ := n_
          have p103 : 0 ≤ (x5_2 : Int) := of_decide_eq_true Z8
          have q103 : x5_2 < (l0_2.length : Int) := of_decide_eq_true Z8
          obtain ⟨ad103, e103, hx103_0⟩ := Kd.at_string HR0_2.out x5_2 p103 q103
          have hw103_0 := hx103_0
          cases e103
          replace hx103_0 := Y18 HB.out hx103_0
          replace p103 := eq_true p103
          replace q103 := eq_true q103
          have p104 : 0 ≤ (x5_2 : Int) := of_decide_eq_true Z8
          have q104 : x5_2 < (l1_2.length : Int) := of_decide_eq_true Z8
          obtain ⟨ad104, e104, hx104_0⟩ := Kd.at_string HR1_2.out x5_2 p104 q104
          have hw104_0 := hx104_0
          cases e104
          replace hx104_0 := Y18 HB.out hx104_0
          replace p104 := eq_true p104
          replace q104 := eq_true q104
          refine Y1l (n := 11) (S := fun w' => w'.cell? ⟨gb101, 0, none⟩ = some (.int .i64 a0_0) ∧ w'.cell? ⟨gb101, 1, none⟩ = some (.string a0_1) ∧ w'.cell? ⟨gb101, 2, none⟩ = some (.slice (some ad103) l0_2.length c0_2) ∧ w'.cell? ⟨gb101, 3, none⟩ = some (.slice A0_3 l0_3.length c0_3) ∧ w'.cell? ⟨gb102, 0, none⟩ = some (.int .i64 a1_0) ∧ w'.cell? ⟨gb102, 1, none⟩ = some (.string a1_1) ∧ w'.cell? ⟨gb102, 2, none⟩ = some (.slice (some ad104) l1_2.length c1_2) ∧ w'.cell? ⟨gb102, 3, none⟩ = some (.slice A1_3 l1_3.length c1_3) ∧ w'.cell? (ad103.add (x5_2).toNat) = some (.string (Y37 ByteArray.empty l0_2 x5_2)) ∧ w'.cell? (ad104.add (x5_2).toNat) = some (.string (Y37 ByteArray.empty l1_2 x5_2))) (ds := []) bz11_0 Z6 rfl rfl ⟨(Y2 BK101.out 0).trans rfl, (Y2 BK101.out 1).trans rfl, (Y2 BK101.out 2).trans rfl, (Y2 BK101.out 3).trans rfl, (Y2 BK102.out 0).trans rfl, (Y2 BK102.out 1).trans rfl, (Y2 BK102.out 2).trans rfl, (Y2 BK102.out 3).trans rfl, ((HB.out.cell (World.block_lt_of_cell? w _ hw103_0)).trans hw103_0), ((HB.out.cell (World.block_lt_of_cell? w _ hw104_0)).trans hw104_0)⟩ (fun hHeld => ?_); refine YW Y6.tab6 Y6.bits6 (fun HT_ HW_ => ?_)
          generalize wr.drew = w28 at BK101 BK102 HB hx103_0 hx104_0 hHeld ⊢
          refine pY 0 44 bz11_1 ?_
          refine pY 2 46 bz11_5 ?_
          refine pY 5 49 bz11_25 ?_
          refine pY 7 51 bz11_a5 ?_
          refine pT 1 45 bz11_a7 ?_
          refine pY 3 47 bz11_af ?_
          refine pT 4 48 bz11_bf ?_
          refine pT 6 50 bz11_ff ?_
          refine pY 8 52 Y6a ?_
          refine pT 9 53 Y6b ?_
          refine pY 10 54 Y6c ?_
          refine Y1Q (Y1a HT_.out Z6) ?_
          try go_wp2
          go_roundg k2
          case measure => have := HJ2.out; have := HK2.out; omega
          case rel => exact ⟨(wrap64 (x5_2 + 1)), Z7, H', ⟨by have := HJ2.out; have := HK2.out; omega⟩, ⟨Z4⟩, ⟨Zo⟩, ⟨QB⟩⟩
         ·rw [if_neg c25] at H
          have c25b0 : ((Y37 ByteArray.empty l0_2 x5_2).toList == (Y37 ByteArray.empty l1_2 x5_2).toList) = false := beq_eq_false_iff_ne.mpr c25
          have c25b1 : ((Y37 ByteArray.empty l0_2 x5_2).toList != (Y37 ByteArray.empty l1_2 x5_2).toList) = true := bne_iff_ne.mpr c25
          obtain rfl := Option.some.inj H
          have hnb29 := NB101_102.out
          have hnc29 := NB102_101.out
          obtain ⟨hcz30_0, hcz30_1, hcz30_2, hcz30_3, hfz30_0, hfz30_1, hfz30_2, hfz30_3⟩ := YA BK101.out
          try go_wp2
          have n_ := Y2Z (Ya BK101.out) (Ya BK102.out) (YP HB.out)
          clear BK101
          clear BK102
          clear HB
          obtain ⟨BK101, BK102, HB⟩ := n_
          have p103 : 0 ≤ (x5_2 : Int) := of_decide_eq_true Z8
          have q103 : x5_2 < (l0_2.length : Int) := of_decide_eq_true Z8
          obtain ⟨ad103, e103, hx103_0⟩ := Kd.at_string HR0_2.out x5_2 p103 q103
          have hw103_0 := hx103_0
          cases e103
          replace hx103_0 := Y18 HB.out hx103_0
          replace p103 := eq_true p103
          replace q103 := eq_true q103
          have p104 : 0 ≤ (x5_2 : Int) := of_decide_eq_true Z8
          have q104 : x5_2 < (l1_2.length : Int) := of_decide_eq_true Z8
          obtain ⟨ad104, e104, hx104_0⟩ := Kd.at_string HR1_2.out x5_2 p104 q104
          have hw104_0 := hx104_0
          cases e104
          replace hx104_0 := Y18 HB.out hx104_0
          replace p104 := eq_true p104
          replace q104 := eq_true q104
          refine Y1l (n := 11) (S := fun w' => w'.cell? ⟨gb101, 0, none⟩ = some (.int .i64 a0_0) ∧ w'.cell? ⟨gb101, 1, none⟩ = some (.string a0_1) ∧ w'.cell? ⟨gb101, 2, none⟩ = some (.slice (some ad103) l0_2.length c0_2) ∧ w'.cell? ⟨gb101, 3, none⟩ = some (.slice A0_3 l0_3.length c0_3) ∧ w'.cell? ⟨gb102, 0, none⟩ = some (.int .i64 a1_0) ∧ w'.cell? ⟨gb102, 1, none⟩ = some (.string a1_1) ∧ w'.cell? ⟨gb102, 2, none⟩ = some (.slice (some ad104) l1_2.length c1_2) ∧ w'.cell? ⟨gb102, 3, none⟩ = some (.slice A1_3 l1_3.length c1_3) ∧ w'.cell? (ad103.add (x5_2).toNat) = some (.string (Y37 ByteArray.empty l0_2 x5_2)) ∧ w'.cell? (ad104.add (x5_2).toNat) = some (.string (Y37 ByteArray.empty l1_2 x5_2))) (ds := []) bz11_0 Z6 rfl rfl ⟨(Y2 BK101.out 0).trans rfl, (Y2 BK101.out 1).trans rfl, (Y2 BK101.out 2).trans rfl, (Y2 BK101.out 3).trans rfl, (Y2 BK102.out 0).trans rfl, (Y2 BK102.out 1).trans rfl, (Y2 BK102.out 2).trans rfl, (Y2 BK102.out 3).trans rfl, ((HB.out.cell (World.block_lt_of_cell? w _ hw103_0)).trans hw103_0), ((HB.out.cell (World.block_lt_of_cell? w _ hw104_0)).trans hw104_0)⟩ (fun hHeld => ?_); refine YW Y6.tab6 Y6.bits6 (fun HT_ HW_ => ?_)
          generalize wr.drew = w31 at BK101 BK102 HB hx103_0 hx104_0 hHeld ⊢
          refine pY 0 44 bz11_1 ?_
          refine pY 2 46 bz11_5 ?_
          refine pY 5 49 bz11_25 ?_
          refine pY 7 51 bz11_a5 ?_
          refine pT 1 45 bz11_a7 ?_
          refine pY 3 47 bz11_af ?_
          refine pT 4 48 bz11_bf ?_
          refine pT 6 50 bz11_ff ?_
          refine pY 8 52 Y6a ?_
          refine pT 9 53 Y6b ?_
          refine pY 10 54 Y6c ?_
          refine Y1Q (Y1a HT_.out Z6) ?_
          try go_wp2
          go_ret
          exact Z2d
        ·rw [if_neg c24] at H
         exact ZA
       ·rw [if_neg c23] at H
        exact ZA
      ·rw [if_neg c22] at H
       have c22b0 : decide (x5_2 < (l0_2.length : Int)) = false := decide_eq_false c22
       clear c22
       have H' := Y0.mk H
       clear H
       have hnb32 := NB101_102.out
       have hnc32 := NB102_101.out
       obtain ⟨hcz33_0, hcz33_1, hcz33_2, hcz33_3, hfz33_0, hfz33_1, hfz33_2, hfz33_3⟩ := YA BK101.out
       go_wp2
       go_loopg [6] k2 (fun kq v6 w' => ∃ (x6_3 : Int), v6 = .int .i64 x6_3 ∧ Y0 (Y6.l1 kq x6_3 a0_0 a0_1 l0_2 l0_3 a1_0 a1_1 l1_2 l1_3 = some r) ∧ Y0 (kq ≤ k2) ∧ Y0 (w'.heap[gb101]? = some (.cells #[.int .i64 a0_0, .string a0_1, (.slice A0_2 l0_2.length c0_2), (.slice A0_3 l0_3.length c0_3)] 37 (0, 0))) ∧ Y0 (w'.heap[gb102]? = some (.cells #[.int .i64 a1_0, .string a1_1, (.slice A1_2 l1_2.length c1_2), (.slice A1_3 l1_3.length c1_3)] 37 (0, 0))) ∧ Y0 (Below w.heap.size w w'))
       case atStart => exact ⟨(0), Z7, H', ⟨Nat.le_refl _⟩, ⟨Z4⟩, ⟨Zo⟩, ⟨QB⟩⟩
       case round =>
        clear H'
        try clear c1
        try clear p1
        try clear q1
        try clear hx1
        try clear c2
        try clear p2
        try clear c3
        try clear c6
        try clear c6b0
        try clear c6b1
        try clear p6
        try clear c7
        try clear c7b0
        try clear c7b1
        try clear c8
        try clear c8b0
        try clear c8b1
        try clear c8b2
        try clear c9
        try clear p10
        try clear q10
        try clear hx10
        try clear c12
        try clear c15
        try clear c18
        try clear c21
        try clear c22
        try clear c22b0
        try clear c23
        try clear c23b0
        try clear c24
        try clear c24b0
        try clear c25
        try clear c25b0
        try clear c25b1
        try clear c26
        try clear c29
        try clear c32
        try clear hcz10_0 hcz10_1 hcz10_2 hcz10_3
        try clear hcz11_0 hcz11_1 hcz11_2 hcz11_3
        try clear hcz13_0 hcz13_1 hcz13_2 hcz13_3
        try clear hcz14_0 hcz14_1 hcz14_2 hcz14_3
        try clear hcz16_0 hcz16_1 hcz16_2 hcz16_3
        try clear hcz17_0 hcz17_1 hcz17_2 hcz17_3
        try clear hcz19_0 hcz19_1 hcz19_2 hcz19_3
        try clear hcz20_0 hcz20_1 hcz20_2 hcz20_3
        try clear hcz27_0 hcz27_1 hcz27_2 hcz27_3
        try clear hcz30_0 hcz30_1 hcz30_2 hcz30_3
        try clear hcz33_0 hcz33_1 hcz33_2 hcz33_3
        try clear hfz10_0
        try clear hfz10_1
        try clear hfz10_2
        try clear hfz10_3
        try clear hfz11_0
        try clear hfz11_1
        try clear hfz11_2
        try clear hfz11_3
        try clear hfz13_0
        try clear hfz13_1
        try clear hfz13_2
        try clear hfz13_3
        try clear hfz14_0
        try clear hfz14_1
        try clear hfz14_2
        try clear hfz14_3
        try clear hfz16_0
        try clear hfz16_1
        try clear hfz16_2
        try clear hfz16_3
        try clear hfz17_0
        try clear hfz17_1
        try clear hfz17_2
        try clear hfz17_3
        try clear hfz19_0
        try clear hfz19_1
        try clear hfz19_2
        try clear hfz19_3
        try clear hfz20_0
        try clear hfz20_1
        try clear hfz20_2
        try clear hfz20_3
        try clear hfz27_0
        try clear hfz27_1
        try clear hfz27_2
        try clear hfz27_3
        try clear hfz30_0
        try clear hfz30_1
        try clear hfz30_2
        try clear hfz30_3
        try clear hfz33_0
        try clear hfz33_1
        try clear hfz33_2
        try clear hfz33_3
        try clear hx103_0
        try clear hx104_0
        try clear p103
        try clear p104
        try clear p2
        try clear q103
        try clear q104
        obtain ⟨x6_3, rfl, HA, HK3, BK101, BK102, HB⟩ := hrel
        cases gk with
        | zero => exact absurd HA.out (by simp [Y6.l1])
        | succ k3 =>
         have H := HA.out
         clear HA
         simp only [Y6.l1] at H
         by_cases c34 : x6_3 < (l0_3.length : Int)
         ·rw [if_pos c34] at H
          have c34b0 : decide (x6_3 < (l0_3.length : Int)) = true := decide_eq_true c34
          clear c34
          by_cases c35 : 0 ≤ x6_3
          ·rw [if_pos c35] at H
           have c35b0 : decide (0 ≤ x6_3) = true := decide_eq_true c35
           clear c35
           by_cases c36 : x6_3 < (l1_3.length : Int)
           ·rw [if_pos c36] at H
            have c36b0 : decide (x6_3 < (l1_3.length : Int)) = true := decide_eq_true c36
            clear c36
            replace H := Option.bind_eq_some_iff.mp H
            obtain ⟨t107, A370, H⟩ := H
            replace H : (if t107 = true then (Y6.l1 k3 (wrap64 (x6_3 + 1)) a0_0 a0_1 l0_2 l0_3 a1_0 a1_1 l1_2 l1_3) else (some false)) = some r := H
            have A37 := Y0.mk A370
            clear A370
            by_cases c38 : t107 = true
            ·subst c38
             have H1 : (Y6.l1 k3 (wrap64 (x6_3 + 1)) a0_0 a0_1 l0_2 l0_3 a1_0 a1_1 l1_2 l1_3) = some r := by rw [if_pos rfl] at H; exact H
             clear H
             have H := H1
             clear H1
             have H' := Y0.mk H
             clear H
             have hnb39 := NB101_102.out
             have hnc39 := NB102_101.out
             obtain ⟨hcz40_0, hcz40_1, hcz40_2, hcz40_3, hfz40_0, hfz40_1, hfz40_2, hfz40_3⟩ := YA BK101.out
             try go_wp2
             have n_ := Y2Z (Ya BK101.out) (Ya BK102.out) (YP HB.out)
             clear BK101
             clear BK102
             clear HB
             obtain ⟨BK101, BK102, HB⟩ := n_
             have p105 : 0 ≤ (x6_3 : Int) := of_decide_eq_true Z8
             have q105 : x6_3 < (l0_3.length : Int) := of_decide_eq_true Z8
             obtain ⟨ad105, A105_2, c105_2, A105_3, c105_3, e105, hx105_0, hx105_1, hx105_2, hx105_3, hl105_2, hi105_2, hl105_3, hi105_3⟩ := Y2r HR0_3.out x6_3 p105 q105
             have hw105_3 := hx105_3
             have hw105_2 := hx105_2
             have hw105_1 := hx105_1
             have hw105_0 := hx105_0
             cases e105
             replace hx105_0 := Y18 HB.out hx105_0
             replace hx105_1 := Y18 HB.out hx105_1
             replace hx105_2 := Y18 HB.out hx105_2
             replace hx105_3 := Y18 HB.out hx105_3
             have HR105_2 := Y0.mk hi105_2
             have HC105_2 := Y0.mk hl105_2
             clear hi105_2 hl105_2
             have HR105_3 := Y0.mk hi105_3
             have HC105_3 := Y0.mk hl105_3
             clear hi105_3 hl105_3
             replace p105 := eq_true p105
             replace q105 := eq_true q105
             have p106 : 0 ≤ (x6_3 : Int) := of_decide_eq_true Z8
             have q106 : x6_3 < (l1_3.length : Int) := of_decide_eq_true Z8
             obtain ⟨ad106, A106_2, c106_2, A106_3, c106_3, e106, hx106_0, hx106_1, hx106_2, hx106_3, hl106_2, hi106_2, hl106_3, hi106_3⟩ := Y2r HR1_3.out x6_3 p106 q106
             have hw106_3 := hx106_3
             have hw106_2 := hx106_2
             have hw106_1 := hx106_1
             have hw106_0 := hx106_0
             cases e106
             replace hx106_0 := Y18 HB.out hx106_0
             replace hx106_1 := Y18 HB.out hx106_1
             replace hx106_2 := Y18 HB.out hx106_2
             replace hx106_3 := Y18 HB.out hx106_3
             have HR106_2 := Y0.mk hi106_2
             have HC106_2 := Y0.mk hl106_2
             clear hi106_2 hl106_2
             have HR106_3 := Y0.mk hi106_3
             have HC106_3 := Y0.mk hl106_3
             clear hi106_3 hl106_3
             replace p106 := eq_true p106
             replace q106 := eq_true q106
             refine Y1l (n := 12) (S := fun w' => w'.cell? ⟨gb101, 0, none⟩ = some (.int .i64 a0_0) ∧ w'.cell? ⟨gb101, 1, none⟩ = some (.string a0_1) ∧ w'.cell? ⟨gb101, 2, none⟩ = some (.slice A0_2 l0_2.length c0_2) ∧ w'.cell? ⟨gb101, 3, none⟩ = some (.slice (some ad105) l0_3.length c0_3) ∧ w'.cell? ⟨gb102, 0, none⟩ = some (.int .i64 a1_0) ∧ w'.cell? ⟨gb102, 1, none⟩ = some (.string a1_1) ∧ w'.cell? ⟨gb102, 2, none⟩ = some (.slice A1_2 l1_2.length c1_2) ∧ w'.cell? ⟨gb102, 3, none⟩ = some (.slice (some ad106) l1_3.length c1_3) ∧ w'.cell? (ad105.add ((x6_3).toNat * 4)) = some (.int .i64 ((Yk l0_3 x6_3).f0)) ∧ w'.cell? ⟨(ad105.add ((x6_3).toNat * 4)).block, (ad105.add ((x6_3).toNat * 4)).off + 1, none⟩ = some (.string ((Yk l0_3 x6_3).f1)) ∧ w'.cell? ⟨(ad105.add ((x6_3).toNat * 4)).block, (ad105.add ((x6_3).toNat * 4)).off + 2, none⟩ = some (.slice A105_2 ((Yk l0_3 x6_3).f2).length c105_2) ∧ w'.cell? ⟨(ad105.add ((x6_3).toNat * 4)).block, (ad105.add ((x6_3).toNat * 4)).off + 3, none⟩ = some (.slice A105_3 ((Yk l0_3 x6_3).f3).length c105_3) ∧ w'.cell? (ad106.add ((x6_3).toNat * 4)) = some (.int .i64 ((Yk l1_3 x6_3).f0)) ∧ w'.cell? ⟨(ad106.add ((x6_3).toNat * 4)).block, (ad106.add ((x6_3).toNat * 4)).off + 1, none⟩ = some (.string ((Yk l1_3 x6_3).f1)) ∧ w'.cell? ⟨(ad106.add ((x6_3).toNat * 4)).block, (ad106.add ((x6_3).toNat * 4)).off + 2, none⟩ = some (.slice A106_2 ((Yk l1_3 x6_3).f2).length c106_2) ∧ w'.cell? ⟨(ad106.add ((x6_3).toNat * 4)).block, (ad106.add ((x6_3).toNat * 4)).off + 3, none⟩ = some (.slice A106_3 ((Yk l1_3 x6_3).f3).length c106_3)) (ds := []) Y4x Z6 rfl rfl ⟨(Y2 BK101.out 0).trans rfl, (Y2 BK101.out 1).trans rfl, (Y2 BK101.out 2).trans rfl, (Y2 BK101.out 3).trans rfl, (Y2 BK102.out 0).trans rfl, (Y2 BK102.out 1).trans rfl, (Y2 BK102.out 2).trans rfl, (Y2 BK102.out 3).trans rfl, ((HB.out.cell (World.block_lt_of_cell? w _ hw105_0)).trans hw105_0), ((HB.out.cell (World.block_lt_of_cell? w _ hw105_1)).trans hw105_1), ((HB.out.cell (World.block_lt_of_cell? w _ hw105_2)).trans hw105_2), ((HB.out.cell (World.block_lt_of_cell? w _ hw105_3)).trans hw105_3), ((HB.out.cell (World.block_lt_of_cell? w _ hw106_0)).trans hw106_0), ((HB.out.cell (World.block_lt_of_cell? w _ hw106_1)).trans hw106_1), ((HB.out.cell (World.block_lt_of_cell? w _ hw106_2)).trans hw106_2), ((HB.out.cell (World.block_lt_of_cell? w _ hw106_3)).trans hw106_3)⟩ (fun hHeld => ?_); refine YW Y6.tab11 Y6.bits11 (fun HT_ HW_ => ?_)
             generalize wr.drew = w41 at BK101 BK102 HB HR105_2 HR105_3 HR106_2 HR106_3 hx105_0 hx105_1 hx105_2 hx105_3 hx106_0 hx106_1 hx106_2 hx106_3 hHeld ⊢
             refine pY 0 62 Y4y ?_
             refine pY 2 64 bz12_5 ?_
             refine pY 5 67 bz12_25 ?_
             refine pY 7 69 bz12_a5 ?_
             refine pT 1 63 bz12_a7 ?_
             refine pY 3 65 bz12_af ?_
             refine pT 4 66 bz12_bf ?_
             refine pT 6 68 Y4a ?_
             refine pY 8 70 Y3E ?_
             refine pT 9 71 Y3b ?_
             refine Y2T (i := 10) (N := some 72) Y3c rfl rfl (Y1j HT_.out Z6) (by decide) (fun K hK => ?_)
             refine Y21 Tryd.func28 Z6 rfl #[.agg #[.int .i64 ((Yk l0_3 x6_3).f0), .string ((Yk l0_3 x6_3).f1), .slice A105_2 ((Yk l0_3 x6_3).f2).length c105_2, .slice A105_3 ((Yk l0_3 x6_3).f3).length c105_3], .agg #[.int .i64 ((Yk l1_3 x6_3).f0), .string ((Yk l1_3 x6_3).f1), .slice A106_2 ((Yk l1_3 x6_3).f2).length c106_2, .slice A106_3 ((Yk l1_3 x6_3).f3).length c106_3]] (by rfl) rfl rfl Z0 ?_
             with_reducible refine (ih k3 Z1d ((Yk l0_3 x6_3).f0) ((Yk l0_3 x6_3).f1) _ _ ((Yk l0_3 x6_3).f2) _ _ ((Yk l0_3 x6_3).f3) ((Yk l1_3 x6_3).f0) ((Yk l1_3 x6_3).f1) _ _ ((Yk l1_3 x6_3).f2) _ _ ((Yk l1_3 x6_3).f3) true _ ?side1 ?side2 ?side3 ?side4 ?side5 ?side6 ?side7 ?side8 A37.out).mono ?_
             (case side1 => exact Z1r)
             (case side2 => exact HC105_2.out)
             (case side3 => exact Z1s)
             (case side4 => exact HC105_3.out)
             (case side5 => exact ZF)
             (case side6 => exact HC106_2.out)
             (case side7 => exact ZG)
             (case side8 => exact HC106_3.out)
             rintro e w42 ⟨rfl, hb⟩
             refine ⟨_, rfl, ?_⟩
             have n_ := Y2Z (Yu (g := gb101) (o := .cells #[.int .i64 a0_0, .string a0_1, .slice A0_2 l0_2.length c0_2, .slice (some ad105) l0_3.length c0_3] 37 (0, 0)) QQ hb) (Yu (g := gb102) (o := .cells #[.int .i64 a1_0, .string a1_1, .slice A1_2 l1_2.length c1_2, .slice (some ad106) l1_3.length c1_3] 37 (0, 0)) QQ hb) (Yb QB hb)
             clear BK101
             clear BK102
             clear HB
             obtain ⟨BK101, BK102, HB⟩ := n_
             (try clear hb)
             (try clear hb2)
             (try clear hk)
             (try clear hi)
             refine hK.out _ _ ⟨(Y2 BK101.out 0).trans rfl, (Y2 BK101.out 1).trans rfl, (Y2 BK101.out 2).trans rfl, (Y2 BK101.out 3).trans rfl, (Y2 BK102.out 0).trans rfl, (Y2 BK102.out 1).trans rfl, (Y2 BK102.out 2).trans rfl, (Y2 BK102.out 3).trans rfl, ((HB.out.cell (World.block_lt_of_cell? w _ hw105_0)).trans hw105_0), ((HB.out.cell (World.block_lt_of_cell? w _ hw105_1)).trans hw105_1), ((HB.out.cell (World.block_lt_of_cell? w _ hw105_2)).trans hw105_2), ((HB.out.cell (World.block_lt_of_cell? w _ hw105_3)).trans hw105_3), ((HB.out.cell (World.block_lt_of_cell? w _ hw106_0)).trans hw106_0), ((HB.out.cell (World.block_lt_of_cell? w _ hw106_1)).trans hw106_1), ((HB.out.cell (World.block_lt_of_cell? w _ hw106_2)).trans hw106_2), ((HB.out.cell (World.block_lt_of_cell? w _ hw106_3)).trans hw106_3)⟩ (fun hHeld => ?_)
             clear hK K
             refine Y1H (a' := ?_) ?_ ?_
             rotate_left
             ·show Act.put _ (some 72) _ = _
              simp only [Act.put, List.setIfInBounds_toArray, List.set_cons_zero, List.set_cons_succ, Y16, Y17]
              rfl
             refine pY 11 73 Y3d ?_
             refine Y1Q (Y1a HT_.out Z6) ?_
             try go_wp2
             go_roundg k3
             case measure => have := HJ2.out; have := HK2.out; have := HK3.out; omega
             case rel => exact ⟨(wrap64 (x6_3 + 1)), Z7, H', ⟨Z1d⟩, ⟨Z4⟩, ⟨Zo⟩, ⟨QB⟩⟩
            ·replace c38 := Bool.eq_false_iff.mpr c38
             subst c38
             have H1 : (some false) = some r := by rw [if_neg (show ¬ (false = true) by decide)] at H; exact H
             clear H
             have H := H1
             clear H1
             obtain rfl := Option.some.inj H
             have hnb43 := NB101_102.out
             have hnc43 := NB102_101.out
             obtain ⟨hcz44_0, hcz44_1, hcz44_2, hcz44_3, hfz44_0, hfz44_1, hfz44_2, hfz44_3⟩ := YA BK101.out
             try go_wp2
             have n_ := Y2Z (Ya BK101.out) (Ya BK102.out) (YP HB.out)
             clear BK101
             clear BK102
             clear HB
             obtain ⟨BK101, BK102, HB⟩ := n_
             have p105 : 0 ≤ (x6_3 : Int) := of_decide_eq_true Z8
             have q105 : x6_3 < (l0_3.length : Int) := of_decide_eq_true Z8
             obtain ⟨ad105, A105_2, c105_2, A105_3, c105_3, e105, hx105_0, hx105_1, hx105_2, hx105_3, hl105_2, hi105_2, hl105_3, hi105_3⟩ := Y2r HR0_3.out x6_3 p105 q105
             have hw105_3 := hx105_3
             have hw105_2 := hx105_2
             have hw105_1 := hx105_1
             have hw105_0 := hx105_0
             cases e105
             replace hx105_0 := Y18 HB.out hx105_0
             replace hx105_1 := Y18 HB.out hx105_1
             replace hx105_2 := Y18 HB.out hx105_2
             replace hx105_3 := Y18 HB.out hx105_3
             have HR105_2 := Y0.mk hi105_2
             have HC105_2 := Y0.mk hl105_2
             clear hi105_2 hl105_2
             have HR105_3 := Y0.mk hi105_3
             have HC105_3 := Y0.mk hl105_3
             clear hi105_3 hl105_3
             replace p105 := eq_true p105
             replace q105 := eq_true q105
             have p106 : 0 ≤ (x6_3 : Int) := of_decide_eq_true Z8
             have q106 : x6_3 < (l1_3.length : Int) := of_decide_eq_true Z8
             obtain ⟨ad106, A106_2, c106_2, A106_3, c106_3, e106, hx106_0, hx106_1, hx106_2, hx106_3, hl106_2, hi106_2, hl106_3, hi106_3⟩ := Y2r HR1_3.out x6_3 p106 q106
             have hw106_3 := hx106_3
             have hw106_2 := hx106_2
             have hw106_1 := hx106_1
             have hw106_0 := hx106_0
             cases e106
             replace hx106_0 := Y18 HB.out hx106_0
             replace hx106_1 := Y18 HB.out hx106_1
             replace hx106_2 := Y18 HB.out hx106_2
             replace hx106_3 := Y18 HB.out hx106_3
             have HR106_2 := Y0.mk hi106_2
             have HC106_2 := Y0.mk hl106_2
             clear hi106_2 hl106_2
             have HR106_3 := Y0.mk hi106_3
             have HC106_3 := Y0.mk hl106_3
             clear hi106_3 hl106_3
             replace p106 := eq_true p106
             replace q106 := eq_true q106
             refine Y1l (n := 12) (S := fun w' => w'.cell? ⟨gb101, 0, none⟩ = some (.int .i64 a0_0) ∧ w'.cell? ⟨gb101, 1, none⟩ = some (.string a0_1) ∧ w'.cell? ⟨gb101, 2, none⟩ = some (.slice A0_2 l0_2.length c0_2) ∧ w'.cell? ⟨gb101, 3, none⟩ = some (.slice (some ad105) l0_3.length c0_3) ∧ w'.cell? ⟨gb102, 0, none⟩ = some (.int .i64 a1_0) ∧ w'.cell? ⟨gb102, 1, none⟩ = some (.string a1_1) ∧ w'.cell? ⟨gb102, 2, none⟩ = some (.slice A1_2 l1_2.length c1_2) ∧ w'.cell? ⟨gb102, 3, none⟩ = some (.slice (some ad106) l1_3.length c1_3) ∧ w'.cell? (ad105.add ((x6_3).toNat * 4)) = some (.int .i64 ((Yk l0_3 x6_3).f0)) ∧ w'.cell? ⟨(ad105.add ((x6_3).toNat * 4)).block, (ad105.add ((x6_3).toNat * 4)).off + 1, none⟩ = some (.string ((Yk l0_3 x6_3).f1)) ∧ w'.cell? ⟨(ad105.add ((x6_3).toNat * 4)).block, (ad105.add ((x6_3).toNat * 4)).off + 2, none⟩ = some (.slice A105_2 ((Yk l0_3 x6_3).f2).length c105_2) ∧ w'.cell? ⟨(ad105.add ((x6_3).toNat * 4)).block, (ad105.add ((x6_3).toNat * 4)).off + 3, none⟩ = some (.slice A105_3 ((Yk l0_3 x6_3).f3).length c105_3) ∧ w'.cell? (ad106.add ((x6_3).toNat * 4)) = some (.int .i64 ((Yk l1_3 x6_3).f0)) ∧ w'.cell? ⟨(ad106.add ((x6_3).toNat * 4)).block, (ad106.add ((x6_3).toNat * 4)).off + 1, none⟩ = some (.string ((Yk l1_3 x6_3).f1)) ∧ w'.cell? ⟨(ad106.add ((x6_3).toNat * 4)).block, (ad106.add ((x6_3).toNat * 4)).off + 2, none⟩ = some (.slice A106_2 ((Yk l1_3 x6_3).f2).length c106_2) ∧ w'.cell? ⟨(ad106.add ((x6_3).toNat * 4)).block, (ad106.add ((x6_3).toNat * 4)).off + 3, none⟩ = some (.slice A106_3 ((Yk l1_3 x6_3).f3).length c106_3)) (ds := []) Y4x Z6 rfl rfl ⟨(Y2 BK101.out 0).trans rfl, (Y2 BK101.out 1).trans rfl, (Y2 BK101.out 2).trans rfl, (Y2 BK101.out 3).trans rfl, (Y2 BK102.out 0).trans rfl, (Y2 BK102.out 1).trans rfl, (Y2 BK102.out 2).trans rfl, (Y2 BK102.out 3).trans rfl, ((HB.out.cell (World.block_lt_of_cell? w _ hw105_0)).trans hw105_0), ((HB.out.cell (World.block_lt_of_cell? w _ hw105_1)).trans hw105_1), ((HB.out.cell (World.block_lt_of_cell? w _ hw105_2)).trans hw105_2), ((HB.out.cell (World.block_lt_of_cell? w _ hw105_3)).trans hw105_3), ((HB.out.cell (World.block_lt_of_cell? w _ hw106_0)).trans hw106_0), ((HB.out.cell (World.block_lt_of_cell? w _ hw106_1)).trans hw106_1), ((HB.out.cell (World.block_lt_of_cell? w _ hw106_2)).trans hw106_2), ((HB.out.cell (World.block_lt_of_cell? w _ hw106_3)).trans hw106_3)⟩ (fun hHeld => ?_); refine YW Y6.tab11 Y6.bits11 (fun HT_ HW_ => ?_)
             generalize wr.drew = w45 at BK101 BK102 HB HR105_2 HR105_3 HR106_2 HR106_3 hx105_0 hx105_1 hx105_2 hx105_3 hx106_0 hx106_1 hx106_2 hx106_3 hHeld ⊢
             refine pY 0 62 Y4y ?_
             refine pY 2 64 bz12_5 ?_
             refine pY 5 67 bz12_25 ?_
             refine pY 7 69 bz12_a5 ?_
             refine pT 1 63 bz12_a7 ?_
             refine pY 3 65 bz12_af ?_
             refine pT 4 66 bz12_bf ?_
             refine pT 6 68 Y4a ?_
             refine pY 8 70 Y3E ?_
             refine pT 9 71 Y3b ?_
             refine Y2T (i := 10) (N := some 72) Y3c rfl rfl (Y1j HT_.out Z6) (by decide) (fun K hK => ?_)
             refine Y21 Tryd.func28 Z6 rfl #[.agg #[.int .i64 ((Yk l0_3 x6_3).f0), .string ((Yk l0_3 x6_3).f1), .slice A105_2 ((Yk l0_3 x6_3).f2).length c105_2, .slice A105_3 ((Yk l0_3 x6_3).f3).length c105_3], .agg #[.int .i64 ((Yk l1_3 x6_3).f0), .string ((Yk l1_3 x6_3).f1), .slice A106_2 ((Yk l1_3 x6_3).f2).length c106_2, .slice A106_3 ((Yk l1_3 x6_3).f3).length c106_3]] (by rfl) rfl rfl Z0 ?_
             with_reducible refine (ih k3 Z1d ((Yk l0_3 x6_3).f0) ((Yk l0_3 x6_3).f1) _ _ ((Yk l0_3 x6_3).f2) _ _ ((Yk l0_3 x6_3).f3) ((Yk l1_3 x6_3).f0) ((Yk l1_3 x6_3).f1) _ _ ((Yk l1_3 x6_3).f2) _ _ ((Yk l1_3 x6_3).f3) false _ ?side1 ?side2 ?side3 ?side4 ?side5 ?side6 ?side7 ?side8 A37.out).mono ?_
             (case side1 => exact Z1r)
             (case side2 => exact HC105_2.out)
             (case side3 => exact Z1s)
             (case side4 => exact HC105_3.out)
             (case side5 => exact ZF)
             (case side6 => exact HC106_2.out)
             (case side7 => exact ZG)
             (case side8 => exact HC106_3.out)
             rintro e w46 ⟨rfl, hb⟩
             refine ⟨_, rfl, ?_⟩
             have n_ := Y2Z (Yu (g := gb101) (o := .cells #[.int .i64 a0_0, .string a0_1, .slice A0_2 l0_2.length c0_2, .slice (some ad105) l0_3.length c0_3] 37 (0, 0)) QQ hb) (Yu (g := gb102) (o := .cells #[.int .i64 a1_0, .string a1_1, .slice A1_2 l1_2.length c1_2, .slice (some ad106) l1_3.length c1_3] 37 (0, 0)) QQ hb) (Yb QB hb)
             clear BK101
             clear BK102
             clear HB
             obtain ⟨BK101, BK102, HB⟩ := n_
             (try clear hb)
             (try clear hb2)
             (try clear hk)
             (try clear hi)
             refine hK.out _ _ ⟨(Y2 BK101.out 0).trans rfl, (Y2 BK101.out 1).trans rfl, (Y2 BK101.out 2).trans rfl, (Y2 BK101.out 3).trans rfl, (Y2 BK102.out 0).trans rfl, (Y2 BK102.out 1).trans rfl, (Y2 BK102.out 2).trans rfl, (Y2 BK102.out 3).trans rfl, ((HB.out.cell (World.block_lt_of_cell? w _ hw105_0)).trans hw105_0), ((HB.out.cell (World.block_lt_of_cell? w _ hw105_1)).trans hw105_1), ((HB.out.cell (World.block_lt_of_cell? w _ hw105_2)).trans hw105_2), ((HB.out.cell (World.block_lt_of_cell? w _ hw105_3)).trans hw105_3), ((HB.out.cell (World.block_lt_of_cell? w _ hw106_0)).trans hw106_0), ((HB.out.cell (World.block_lt_of_cell? w _ hw106_1)).trans hw106_1), ((HB.out.cell (World.block_lt_of_cell? w _ hw106_2)).trans hw106_2), ((HB.out.cell (World.block_lt_of_cell? w _ hw106_3)).trans hw106_3)⟩ (fun hHeld => ?_)
             clear hK K
             refine Y1H (a' := ?_) ?_ ?_
             rotate_left
             ·show Act.put _ (some 72) _ = _
              simp only [Act.put, List.setIfInBounds_toArray, List.set_cons_zero, List.set_cons_succ, Y16, Y17]
              rfl
             refine pY 11 73 Y3d ?_
             refine Y1Q (Y1a HT_.out Z6) ?_
             try go_wp2
             go_ret
             exact Z2d
           ·rw [if_neg c36] at H
            exact ZA
          ·rw [if_neg c35] at H
           exact ZA
         ·rw [if_neg c34] at H
          have c34b0 : decide (x6_3 < (l0_3.length : Int)) = false := decide_eq_false c34
          clear c34
          obtain rfl := Option.some.inj H
          have hnb47 := NB101_102.out
          have hnc47 := NB102_101.out
          obtain ⟨hcz48_0, hcz48_1, hcz48_2, hcz48_3, hfz48_0, hfz48_1, hfz48_2, hfz48_3⟩ := YA BK101.out
          go_wp2
          go_ret
          exact Z2d
mutual
def triviumlaw12_QueryBack.j0 : Nat → Bool → Int → ByteArray → List ByteArray → List (S37) → Option (Bool)
 | 0, _, _, _, _, _ => none
 | k + 1, x16, x102000, x102001, x102002, x102003 => if x16 = true then (some true) else ((YH.f k x102000 x102001 x102002 x102003).bind fun t104 => ((YJ.f k t104).bind fun bt105 => (if bt105.2.2.2.2.2 = 4 then (triviumlaw12_QueryBack.j1 k t104 bt105.2.2.2.2.1 bt105.2.2.2.2.2 true x102000 x102001 x102002 x102003 bt105.1 bt105.2.1 bt105.2.2.1 bt105.2.2.2.1) else (triviumlaw12_QueryBack.j1 k t104 bt105.2.2.2.2.1 bt105.2.2.2.2.2 (bt105.2.2.2.2.2 == 3) x102000 x102001 x102002 x102003 bt105.1 bt105.2.1 bt105.2.2.1 bt105.2.2.2.1))))
def triviumlaw12_QueryBack.j1 : Nat → ByteArray → Int → Int → Bool → Int → ByteArray → List ByteArray → List (S37) → Int → ByteArray → List ByteArray → List (S37) → Option (Bool)
 | 0, _, _, _, _, _, _, _, _, _, _, _, _ => none
 | k + 1, x3, x5, x6, x30, x102000, x102001, x102002, x102003, x116000, x116001, x116002, x116003 => if x30 = true then ((YC.f k x3).bind fun bt116 => (if x6 = bt116.2.2.2.2.2 then (if x5 = bt116.2.2.2.2.1 then ((YT.f k).bind fun t127 => (some t127)) else (some false)) else (some false))) else (if x6 = 0 then (if x5 = (x3.size : Int) then ((Y6.f k x102000 x102001 x102002 x102003 x116000 x116001 x116002 x116003).bind fun t128 => (if t128 = true then ((YT.f k).bind fun t129 => (some t129)) else (some false))) else (some false)) else (some false))
end
def triviumlaw12_QueryBack.f (k : Nat) (a0_0 : Int) (a0_1 : ByteArray) (l0_2 : List ByteArray) (l0_3 : List (S37)) : Option (Bool) := (Yv.f k a0_0 a0_1 l0_2 l0_3 0).bind fun t102 => (if t102 = true then (triviumlaw12_QueryBack.j0 k true a0_0 a0_1 l0_2 l0_3) else ((Y1b.f k a0_0 a0_1 l0_2 l0_3).bind fun t103 => (triviumlaw12_QueryBack.j0 k (!t103) a0_0 a0_1 l0_2 l0_3)))
set_option maxHeartbeats 8000000 in
set_option maxRecDepth 100000 in
theorem triviumlaw12_QueryBack.calls (k : Nat) (a0_0 : Int) (a0_1 : ByteArray) (A0_2 : Option Addr) (c0_2 : Nat) (l0_2 : List ByteArray) (A0_3 : Option Addr) (c0_3 : Nat) (l0_3 : List (S37)) (r : Bool) (w : World) (hT : Tabs w) (hr0_2 : Kd.C Kd.string w A0_2 l0_2.length l0_2) (hc0_2 : l0_2.length ≤ c0_2) (hr0_3 : Kd.C k37 w A0_3 l0_3.length l0_3) (hc0_3 : l0_3.length ≤ c0_3) (h : triviumlaw12_QueryBack.f k a0_0 a0_1 l0_2 l0_3 = some r) :
  Calls Tryd.prog 5 #[.agg #[.int .i64 a0_0, .string a0_1, .slice A0_2 l0_2.length c0_2, .slice A0_3 l0_3.length c0_3]] w fun e w' => e = .returned (.bool r) ∧ Below w.heap.size w w' := by
 have HT := Y0.mk hT
 clear hT
 have hu37 := Tryd.underlying37
 have HR0_2 := Y0.mk hr0_2
 have HC0_2 := Y0.mk hc0_2
 clear hr0_2 hc0_2
 have HR0_3 := Y0.mk hr0_3
 have HC0_3 := Y0.mk hc0_3
 clear hr0_3 hc0_3
 have HB := Y0.mk (Below.refl w.heap.size w)
 have H : ((Yv.f k a0_0 a0_1 l0_2 l0_3 0).bind fun t102 => (if t102 = true then (triviumlaw12_QueryBack.j0 k true a0_0 a0_1 l0_2 l0_3) else ((Y1b.f k a0_0 a0_1 l0_2 l0_3).bind fun t103 => (triviumlaw12_QueryBack.j0 k (!t103) a0_0 a0_1 l0_2 l0_3)))) = some r := h
 clear h
 have HC2 := Y0.mk H
 clear H
 go_enter Tryd.func5, Tryd.ntmps5
 go_upto_region 1 with (first | ((with_reducible refine YF (N := 1) rfl ?_); (try (refine YX (by rfl) ?_; dsimp only)); refine YE ?hg (N := 1) ?hd (cs := #[.int .i64 a0_0, .string a0_1, .slice A0_2 l0_2.length c0_2, .slice A0_3 l0_3.length c0_3]) (t := 37) ?hr ?_; (case hd => rfl); (case hg => rfl); (case hr => exact Za); intro gb101 hg w3 hbox hb; have n_ := Y31 (Yb QB hb) (hbox) ((by rw [hg]; exact (Ym QB) : w.heap.size ≤ gb101)) ((by rw [hg]; exact (Ym QB) : w.heap.size ≤ gb101)); clear HB; obtain ⟨HB, BK101, GW101, GE101⟩ := n_; clear hb hbox hg))
 (try simp only [Act.put, List.setIfInBounds_toArray, List.set_cons_zero, List.set_cons_succ])
 go_cut [16] (fun v16 wc => ∃ (kq : Nat) (x16_1 : Bool), v16 = .bool x16_1 ∧ Y0 (triviumlaw12_QueryBack.j0 kq x16_1 a0_0 a0_1 l0_2 l0_3 = some r) ∧ Y0 (kq ≤ k) ∧ Y0 (wc.heap[gb101]? = some (.cells #[.int .i64 a0_0, .string a0_1, (.slice A0_2 l0_2.length c0_2), (.slice A0_3 l0_3.length c0_3)] 37 (0, 0))) ∧ Y0 (Below w.heap.size w wc))
 case first =>
  have H := HC2.out
  clear HC2
  replace H := Option.bind_eq_some_iff.mp H
  obtain ⟨t102, A40, H⟩ := H
  replace H : (if t102 = true then (triviumlaw12_QueryBack.j0 k true a0_0 a0_1 l0_2 l0_3) else ((Y1b.f k a0_0 a0_1 l0_2 l0_3).bind fun t103 => (triviumlaw12_QueryBack.j0 k (!t103) a0_0 a0_1 l0_2 l0_3))) = some r := H
  have A4 := Y0.mk A40
  clear A40
  by_cases c5 : t102 = true
  ·subst c5
   have H1 : (triviumlaw12_QueryBack.j0 k true a0_0 a0_1 l0_2 l0_3) = some r := by rw [if_pos rfl] at H; exact H
   clear H
   have H := H1
   clear H1
   have H' := Y0.mk H
   clear H
   obtain ⟨hcz6_0, hcz6_1, hcz6_2, hcz6_3, hfz6_0, hfz6_1, hfz6_2, hfz6_3⟩ := YA BK101.out
   go_wp2_with (first | ((with_reducible refine Yn (f := 22) rfl ?_); refine YO (some 11) rfl rfl Tryd.func22 Z6 rfl #[.agg #[.int .i64 a0_0, .string a0_1, .slice A0_2 l0_2.length c0_2, .slice A0_3 l0_3.length c0_3], .int .i64 0] rfl Z0 ?_; (with_reducible refine (Yv.calls k a0_0 a0_1 _ _ l0_2 _ _ l0_3 0 true _ ?side1 ?side2 ?side3 ?side4 A4.out).mono ?_); (case side1 => exact Zd); (case side2 => exact Z1N); (case side3 => exact Zg); (case side4 => exact Z1V); rintro e w7 ⟨rfl, hb⟩; refine ⟨_, rfl, ?_⟩; have n_ := Y2F (Yu (g := gb101) (o := .cells #[.int .i64 a0_0, .string a0_1, .slice A0_2 l0_2.length c0_2, .slice A0_3 l0_3.length c0_3] 37 (0, 0)) QQ hb) (Yb QB hb); clear BK101 HB; obtain ⟨BK101, HB⟩ := n_; (try clear hb); (try clear hb2); (try clear hk); (try clear hi)))
   go_meet
   case rel => exact Z2f
  ·replace c5 := Bool.eq_false_iff.mpr c5
   subst c5
   have H1 : ((Y1b.f k a0_0 a0_1 l0_2 l0_3).bind fun t103 => (triviumlaw12_QueryBack.j0 k (!t103) a0_0 a0_1 l0_2 l0_3)) = some r := by rw [if_neg (show ¬ (false = true) by decide)] at H; exact H
   clear H
   have H := H1
   clear H1
   replace H := Option.bind_eq_some_iff.mp H
   obtain ⟨t103, A80, H⟩ := H
   replace H : (triviumlaw12_QueryBack.j0 k (!t103) a0_0 a0_1 l0_2 l0_3) = some r := H
   have A8 := Y0.mk A80
   clear A80
   have H' := Y0.mk H
   clear H
   obtain ⟨hcz9_0, hcz9_1, hcz9_2, hcz9_3, hfz9_0, hfz9_1, hfz9_2, hfz9_3⟩ := YA BK101.out
   go_wp2_with (first | ((with_reducible refine Yn (f := 22) rfl ?_); refine YO (some 11) rfl rfl Tryd.func22 Z6 rfl #[.agg #[.int .i64 a0_0, .string a0_1, .slice A0_2 l0_2.length c0_2, .slice A0_3 l0_3.length c0_3], .int .i64 0] rfl Z0 ?_; (with_reducible refine (Yv.calls k a0_0 a0_1 _ _ l0_2 _ _ l0_3 0 false _ ?side1 ?side2 ?side3 ?side4 A4.out).mono ?_); (case side1 => exact Zd); (case side2 => exact Z1N); (case side3 => exact Zg); (case side4 => exact Z1V); rintro e w10 ⟨rfl, hb⟩; refine ⟨_, rfl, ?_⟩; have n_ := Y2F (Yu (g := gb101) (o := .cells #[.int .i64 a0_0, .string a0_1, .slice A0_2 l0_2.length c0_2, .slice A0_3 l0_3.length c0_3] 37 (0, 0)) QQ hb) (Yb QB hb); clear BK101 HB; obtain ⟨BK101, HB⟩ := n_; (try clear hb); (try clear hb2); (try clear hk); (try clear hi); obtain ⟨hcz11_0, hcz11_1, hcz11_2, hcz11_3, hfz11_0, hfz11_1, hfz11_2, hfz11_3⟩ := YA BK101.out) | (go_at_call 23; (with_reducible refine (Y1b.calls k a0_0 a0_1 _ _ l0_2 _ _ l0_3 t103 _ ?side1 ?side2 ?side3 ?side4 ?side5 A8.out).mono ?_); (case side1 => exact Z3); (case side2 => exact Zd); (case side3 => exact Z1N); (case side4 => exact Zg); (case side5 => exact Z1V); rintro e w12 ⟨rfl, hb⟩; have n_ := Y2F (Yu (g := gb101) (o := .cells #[.int .i64 a0_0, .string a0_1, .slice A0_2 l0_2.length c0_2, .slice A0_3 l0_3.length c0_3] 37 (0, 0)) QQ hb) (Yb QB hb); clear BK101 HB; obtain ⟨BK101, HB⟩ := n_; (try clear hb); (try clear hb2); (try clear hk); (try clear hi)))
   go_meet
   case rel => exact ⟨_, (!t103), Z7, H', ⟨Zr⟩, ⟨Z4⟩, ⟨QB⟩⟩
 case rest =>
  clear HC2
  try clear c2
  try clear p2
  try clear c5
  try clear hcz11_0 hcz11_1 hcz11_2 hcz11_3
  try clear hcz6_0 hcz6_1 hcz6_2 hcz6_3
  try clear hcz9_0 hcz9_1 hcz9_2 hcz9_3
  try clear hfz11_0
  try clear hfz11_1
  try clear hfz11_2
  try clear hfz11_3
  try clear hfz6_0
  try clear hfz6_1
  try clear hfz6_2
  try clear hfz6_3
  try clear hfz9_0
  try clear hfz9_1
  try clear hfz9_2
  try clear hfz9_3
  obtain ⟨kq, x16_1, rfl, HA, HJ1, BK101, HB⟩ := hcut
  cases kq with
  | zero => exact absurd HA.out (by simp [triviumlaw12_QueryBack.j0])
  | succ kj1 =>
   have H := HA.out
   clear HA
   simp only [triviumlaw12_QueryBack.j0] at H
   by_cases c13 : x16_1 = true
   ·subst c13
    have H1 : (some true) = some r := by rw [if_pos rfl] at H; exact H
    clear H
    have H := H1
    clear H1
    obtain rfl := Option.some.inj H
    go_wp2
    go_ret
    exact Z2d
   ·replace c13 := Bool.eq_false_iff.mpr c13
    subst c13
    have H1 : ((YH.f kj1 a0_0 a0_1 l0_2 l0_3).bind fun t104 => ((YJ.f kj1 t104).bind fun bt105 => (if bt105.2.2.2.2.2 = 4 then (triviumlaw12_QueryBack.j1 kj1 t104 bt105.2.2.2.2.1 bt105.2.2.2.2.2 true a0_0 a0_1 l0_2 l0_3 bt105.1 bt105.2.1 bt105.2.2.1 bt105.2.2.2.1) else (triviumlaw12_QueryBack.j1 kj1 t104 bt105.2.2.2.2.1 bt105.2.2.2.2.2 (bt105.2.2.2.2.2 == 3) a0_0 a0_1 l0_2 l0_3 bt105.1 bt105.2.1 bt105.2.2.1 bt105.2.2.2.1)))) = some r := by rw [if_neg (show ¬ (false = true) by decide)] at H; exact H
    clear H
    have H := H1
    clear H1
    replace H := Option.bind_eq_some_iff.mp H
    obtain ⟨t104, A140, H⟩ := H
    replace H : ((YJ.f kj1 t104).bind fun bt105 => (if bt105.2.2.2.2.2 = 4 then (triviumlaw12_QueryBack.j1 kj1 t104 bt105.2.2.2.2.1 bt105.2.2.2.2.2 true a0_0 a0_1 l0_2 l0_3 bt105.1 bt105.2.1 bt105.2.2.1 bt105.2.2.2.1) else (triviumlaw12_QueryBack.j1 kj1 t104 bt105.2.2.2.2.1 bt105.2.2.2.2.2 (bt105.2.2.2.2.2 == 3) a0_0 a0_1 l0_2 l0_3 bt105.1 bt105.2.1 bt105.2.2.1 bt105.2.2.2.1))) = some r := H
    have A14 := Y0.mk A140
    clear A140
    replace H := Option.bind_eq_some_iff.mp H
    obtain ⟨⟨t105, t106, t107, t110, t113, t114⟩, A150, H⟩ := H
    replace H : (if t114 = 4 then (triviumlaw12_QueryBack.j1 kj1 t104 t113 t114 true a0_0 a0_1 l0_2 l0_3 t105 t106 t107 t110) else (triviumlaw12_QueryBack.j1 kj1 t104 t113 t114 (t114 == 3) a0_0 a0_1 l0_2 l0_3 t105 t106 t107 t110)) = some r := H
    have A15 := Y0.mk A150
    clear A150
    have HC16 := Y0.mk H
    clear H
    obtain ⟨hcz17_0, hcz17_1, hcz17_2, hcz17_3, hfz17_0, hfz17_1, hfz17_2, hfz17_3⟩ := YA BK101.out
    go_upto_region 5 with (first | ((with_reducible refine Yn (f := 24) rfl ?_); refine YO (some 18) rfl rfl Tryd.func24 Z6 rfl #[.agg #[.int .i64 a0_0, .string a0_1, .slice A0_2 l0_2.length c0_2, .slice A0_3 l0_3.length c0_3]] rfl Z0 ?_; (with_reducible refine (YH.calls kj1 a0_0 a0_1 _ _ l0_2 _ _ l0_3 t104 _ ?side1 ?side2 ?side3 ?side4 A14.out).mono ?_); (case side1 => exact Zd); (case side2 => exact Z1N); (case side3 => exact Zg); (case side4 => exact Z1V); rintro e w18 ⟨rfl, hb⟩; refine ⟨_, rfl, ?_⟩; have n_ := Y2F (Yu (g := gb101) (o := .cells #[.int .i64 a0_0, .string a0_1, .slice A0_2 l0_2.length c0_2, .slice A0_3 l0_3.length c0_3] 37 (0, 0)) QQ hb) (Yb QB hb); clear BK101 HB; obtain ⟨BK101, HB⟩ := n_; (try clear hb); (try clear hb2); (try clear hk); (try clear hi)) | ((with_reducible refine Yn (f := 25) rfl ?_); refine YO (some 21) rfl rfl Tryd.func25 Z6 rfl #[.string t104] rfl Z0 ?_; (with_reducible refine (YJ.calls kj1 t104 t105 t106 t107 t110 t113 t114 _ ?side1 A15.out).mono ?_); (case side1 => exact Z3); rintro e w19 ⟨v108, v111, rfl, ho0, ho1, hb⟩; refine ⟨_, rfl, ?_⟩; have n_ := Y31 (Kd.R_lower (Kd.R_mono (ok' := fun k_ => True) ho0 (fun _ hk_ => trivial)) (Ym QB)) (Kd.N_lower (Kd.N_mono (ok' := fun k_ => some k_ ≠ (v108 : Value).ownBlock ∧ k_ ≠ gb101) ho1 (fun k_ hk_ => ⟨hk_.2, (Kd.freshB (g := gb101) (o := .cells #[.int .i64 a0_0, .string a0_1, .slice A0_2 l0_2.length c0_2, .slice A0_3 l0_3.length c0_3] 37 (0, 0)) QQ k_ hk_.1)⟩)) (Ym QB)) (Yu (g := gb101) (o := .cells #[.int .i64 a0_0, .string a0_1, .slice A0_2 l0_2.length c0_2, .slice A0_3 l0_3.length c0_3] 37 (0, 0)) QQ hb) (Yb QB hb); clear BK101 HB; obtain ⟨HO109, HO112, BK101, HB⟩ := n_; (try clear hb); (try clear hb2); (try clear hk); (try clear hi); (try clear ho0); (try clear ho1)) | ((with_reducible refine YF (N := 4) rfl ?_); (try (refine YX (by rfl) ?_; dsimp only)); refine YE ?hg (N := 4) ?hd (cs := #[.int .i64 0, .string (⟨#[]⟩ : ByteArray), .slice none 0 0, .slice none 0 0]) (t := 37) ?hr ?_; (case hd => rfl); (case hg => rfl); (case hr => exact Za); intro gb115 hg w20 hbox hb; have n_ := put9 (Kd.R_below (by (with_reducible repeat (first | apply Kd.R_alloc | apply Kd.R_drewN | apply Kd.R_drew)); exact HO109.out) hb) (Kd.N_below (Kd.N_elderB (by (with_reducible repeat (first | apply Kd.N_alloc | apply Kd.N_drewN | apply Kd.N_drew)); exact HO112.out) gb115 (Nat.le_of_eq hg.symm)) hb) (Yu (g := gb101) (o := .cells #[.int .i64 a0_0, .string a0_1, .slice A0_2 l0_2.length c0_2, .slice A0_3 l0_3.length c0_3] 37 (0, 0)) QQ hb) (Yb QB hb) (hbox) ((by rw [hg]; exact (Ym QB) : w.heap.size ≤ gb115)) ((by rw [hg]; exact (Ym QB) : w.heap.size ≤ gb115)) ((by rw [hg]; exact Nat.ne_of_lt (Y15 (g := gb101) (o := .cells #[.int .i64 a0_0, .string a0_1, .slice A0_2 l0_2.length c0_2, .slice A0_3 l0_3.length c0_3] 37 (0, 0)) QQ) : gb101 ≠ gb115)) ((by rw [hg]; exact Nat.ne_of_gt (Y15 (g := gb101) (o := .cells #[.int .i64 a0_0, .string a0_1, .slice A0_2 l0_2.length c0_2, .slice A0_3 l0_3.length c0_3] 37 (0, 0)) QQ) : gb115 ≠ gb101)); clear HO109 HO112 BK101 HB; obtain ⟨HO109, HO112, BK101, HB, BK115, GW115, GE115, NB101_115, NB115_101⟩ := n_; clear hb hbox hg; have hnb21 := NB115_101.out; have hnc21 := NB101_115.out; obtain ⟨hcz22_0, hcz22_1, hcz22_2, hcz22_3, hfz22_0, hfz22_1, hfz22_2, hfz22_3⟩ := YA BK115.out; obtain ⟨Ao23, co23, eo23⟩ := Kd.R_slice HO109.out; subst eo23; obtain ⟨Ao24, co24, eo24⟩ := Kd.N_slice HO112.out; subst eo24))
    (try simp only [Act.put, List.setIfInBounds_toArray, List.set_cons_zero, List.set_cons_succ])
    go_cut [30] (fun v30 wc => ∃ (kq : Nat) (x30_15 : Bool), v30 = .bool x30_15 ∧ Y0 (triviumlaw12_QueryBack.j1 kq t104 t113 t114 x30_15 a0_0 a0_1 l0_2 l0_3 t105 t106 t107 t110 = some r) ∧ Y0 (kq ≤ kj1) ∧ Y0 (Kd.R Kd.string 9 wc w.heap.size (fun _ => True) (.slice Ao23 t107.length co23) t107) ∧ Y0 (Kd.N k37 37 wc w.heap.size (fun k_ => some k_ ≠ ((.slice Ao23 t107.length co23) : Value).ownBlock ∧ k_ ≠ gb101 ∧ k_ ≠ gb115) (.slice Ao24 t110.length co24) t110) ∧ Y0 (wc.heap[gb101]? = some (.cells #[.int .i64 a0_0, .string a0_1, (.slice A0_2 l0_2.length c0_2), (.slice A0_3 l0_3.length c0_3)] 37 (0, 0))) ∧ Y0 (wc.heap[gb115]? = some (.cells #[.int .i64 t105, .string t106, (.slice Ao23 t107.length co23), (.slice Ao24 t110.length co24)] 37 (0, 0))) ∧ Y0 (Below w.heap.size w wc))
    case first =>
     have H := HC16.out
     clear HC16
     by_cases c25 : t114 = 4
     ·rw [if_pos c25] at H
      have c25b0 : (t114 == 4) = true := beq_iff_eq.mpr c25
      have c25b1 : (t114 != 4) = false := bne_eq_false_iff_eq.mpr c25
      clear c25
      (first | rw [c25b0] | (simp only [Y16, Y17]; rw [c25b0]) | skip)
      have H' := Y0.mk H
      clear H
      go_wp2
      go_meet
      case rel => exact ⟨_, (true), Z7, H', ⟨Z17⟩, ⟨ZZ⟩, ⟨ZS⟩, ⟨Zc⟩, ⟨Z27⟩, ⟨QB⟩⟩
     ·rw [if_neg c25] at H
      have c25b0 : (t114 == 4) = false := beq_eq_false_iff_ne.mpr c25
      have c25b1 : (t114 != 4) = true := bne_iff_ne.mpr c25
      (first | rw [c25b0] | (simp only [Y16, Y17]; rw [c25b0]) | skip)
      have H' := Y0.mk H
      clear H
      go_wp2
      go_meet
      case rel => exact ⟨_, ((t114 == 3)), Z7, H', ⟨Z17⟩, ⟨ZZ⟩, ⟨ZS⟩, ⟨Zc⟩, ⟨Z27⟩, ⟨QB⟩⟩
    case rest =>
     clear HC16
     try clear c1
     try clear c2
     try clear p2
     try clear c5
     try clear c13
     try clear c21
     try clear c22
     try clear c24
     try clear c25
     try clear c25b0
     try clear c25b1
     try clear hcz11_0 hcz11_1 hcz11_2 hcz11_3
     try clear hcz17_0 hcz17_1 hcz17_2 hcz17_3
     try clear hcz22_0 hcz22_1 hcz22_2 hcz22_3
     try clear hcz6_0 hcz6_1 hcz6_2 hcz6_3
     try clear hcz9_0 hcz9_1 hcz9_2 hcz9_3
     try clear hfz11_0
     try clear hfz11_1
     try clear hfz11_2
     try clear hfz11_3
     try clear hfz17_0
     try clear hfz17_1
     try clear hfz17_2
     try clear hfz17_3
     try clear hfz22_0
     try clear hfz22_1
     try clear hfz22_2
     try clear hfz22_3
     try clear hfz6_0
     try clear hfz6_1
     try clear hfz6_2
     try clear hfz6_3
     try clear hfz9_0
     try clear hfz9_1
     try clear hfz9_2
     try clear hfz9_3
     try clear p2
     obtain ⟨kq, x30_15, rfl, HA, HJ15, HO_116002, HO_116003, BK101, BK115, HB⟩ := hcut
     cases kq with
     | zero => exact absurd HA.out (by simp [triviumlaw12_QueryBack.j1])
     | succ kj15 =>
      have H := HA.out
      clear HA
      simp only [triviumlaw12_QueryBack.j1] at H
      by_cases c26 : x30_15 = true
      ·subst c26
       have H1 : ((YC.f kj15 t104).bind fun bt116 => (if t114 = bt116.2.2.2.2.2 then (if t113 = bt116.2.2.2.2.1 then ((YT.f kj15).bind fun t127 => (some t127)) else (some false)) else (some false))) = some r := by rw [if_pos rfl] at H; exact H
       clear H
       have H := H1
       clear H1
       replace H := Option.bind_eq_some_iff.mp H
       obtain ⟨⟨t116, t117, t118, t121, t124, t125⟩, A270, H⟩ := H
       replace H : (if t114 = t125 then (if t113 = t124 then ((YT.f kj15).bind fun t127 => (some t127)) else (some false)) else (some false)) = some r := H
       have A27 := Y0.mk A270
       clear A270
       by_cases c28 : t114 = t125
       ·rw [if_pos c28] at H
        have c28b0 : (t114 == t125) = true := beq_iff_eq.mpr c28
        have c28b1 : (t114 != t125) = false := bne_eq_false_iff_eq.mpr c28
        clear c28
        by_cases c29 : t113 = t124
        ·rw [if_pos c29] at H
         have c29b0 : (t113 == t124) = true := beq_iff_eq.mpr c29
         have c29b1 : (t113 != t124) = false := bne_eq_false_iff_eq.mpr c29
         clear c29
         replace H := Option.bind_eq_some_iff.mp H
         obtain ⟨t127, A300, H⟩ := H
         replace H : (some t127) = some r := H
         have A30 := Y0.mk A300
         clear A300
         obtain rfl := Option.some.inj H
         go_wp2_with (first | ((with_reducible refine Yn (f := 26) rfl ?_); refine YO (some 33) rfl rfl Tryd.func26 Z6 rfl #[.string t104] rfl Z0 ?_; (with_reducible refine (YC.calls kj15 t104 t116 t117 t118 t121 t124 t125 _ ?side1 A27.out).mono ?_); (case side1 => exact Z3); rintro e w31 ⟨v119, v122, rfl, ho0, ho1, hb⟩; refine ⟨_, rfl, ?_⟩; have n0_ := Y0.mk (Kd.R_elder' Zb (Kd.R_base ho0) hb); have n1_ := Y0.mk (Kd.N_mono (Kd.N_told (Kd.N_told (Kd.N_old Ze hb) (Kd.R_base ho0)) (Kd.N_base ho1)) (fun _ h_ => h_.1)); have n2_ := Y0.mk (Kd.R_lower (Kd.R_new' (Kd.R_mono (ok' := fun k_ => True) ho0 (fun _ hk_ => trivial)) (Kd.R_lt Zb)) (Ym QB)); have n3_ := Y0.mk (Kd.N_lower (Kd.N_mono (ok' := fun k_ => some k_ ≠ (v119 : Value).ownBlock ∧ some k_ ≠ (.slice Ao23 t107.length co23 : Value).ownBlock ∧ some k_ ≠ (.slice Ao24 t110.length co24 : Value).ownBlock ∧ k_ ≠ gb101 ∧ k_ ≠ gb115) ho1 (fun k_ hk_ => ⟨hk_.2, (Kd.fresh' (Kd.R_lt Zb) k_ hk_.1), (Kd.fresh' (Kd.N_lt Ze) k_ hk_.1), (Kd.freshB (g := gb101) (o := .cells #[.int .i64 a0_0, .string a0_1, .slice A0_2 l0_2.length c0_2, .slice A0_3 l0_3.length c0_3] 37 (0, 0)) QQ k_ hk_.1), (Kd.freshB (g := gb115) (o := .cells #[.int .i64 t105, .string t106, .slice Ao23 t107.length co23, .slice Ao24 t110.length co24] 37 (0, 0)) QQ k_ hk_.1)⟩)) (Ym QB)); have n4_ := Y0.mk (Yu (g := gb101) (o := .cells #[.int .i64 a0_0, .string a0_1, .slice A0_2 l0_2.length c0_2, .slice A0_3 l0_3.length c0_3] 37 (0, 0)) QQ hb); have n5_ := Y0.mk (Yu (g := gb115) (o := .cells #[.int .i64 t105, .string t106, .slice Ao23 t107.length co23, .slice Ao24 t110.length co24] 37 (0, 0)) QQ hb); have n6_ := Y0.mk (Yb QB hb); clear HO_116002 HO_116003 BK101 BK115 HB; have HO_116002 := n0_; have HO_116003 := n1_; have HO120 := n2_; have HO123 := n3_; have BK101 := n4_; have BK115 := n5_; have HB := n6_; clear n0_ n1_ n2_ n3_ n4_ n5_ n6_; (try clear hb); (try clear hb2); (try clear hk); (try clear hi); (try clear ho0); (try clear ho1)) | ((with_reducible refine YF (N := 7) rfl ?_); (try (refine YX (by rfl) ?_; dsimp only)); refine YE ?hg (N := 7) ?hd (cs := #[.int .i64 0, .string (⟨#[]⟩ : ByteArray), .slice none 0 0, .slice none 0 0]) (t := 37) ?hr ?_; (case hd => rfl); (case hg => rfl); (case hr => exact Za); intro gb126 hg w32 hbox hb; have n0_ := Y0.mk (Kd.R_below Zb hb); have n1_ := Y0.mk (Kd.N_below (Kd.N_elderB Ze gb126 (Nat.le_of_eq hg.symm)) hb); have n2_ := Y0.mk (Kd.R_below Z1h hb); have n3_ := Y0.mk (Kd.N_below (Kd.N_elderB Z1f gb126 (Nat.le_of_eq hg.symm)) hb); have n4_ := Y0.mk (Yu (g := gb101) (o := .cells #[.int .i64 a0_0, .string a0_1, .slice A0_2 l0_2.length c0_2, .slice A0_3 l0_3.length c0_3] 37 (0, 0)) QQ hb); have n5_ := Y0.mk (Yu (g := gb115) (o := .cells #[.int .i64 t105, .string t106, .slice Ao23 t107.length co23, .slice Ao24 t110.length co24] 37 (0, 0)) QQ hb); have n6_ := Y0.mk (Yb QB hb); have n7_ := Y0.mk (hbox); have n8_ := Y0.mk ((by rw [hg]; exact (Ym QB) : w.heap.size ≤ gb126)); have n9_ := Y0.mk ((by rw [hg]; exact (Ym QB) : w.heap.size ≤ gb126)); have n10_ := Y0.mk ((by rw [hg]; exact Nat.ne_of_lt (Y15 (g := gb101) (o := .cells #[.int .i64 a0_0, .string a0_1, .slice A0_2 l0_2.length c0_2, .slice A0_3 l0_3.length c0_3] 37 (0, 0)) QQ) : gb101 ≠ gb126)); have n11_ := Y0.mk ((by rw [hg]; exact Nat.ne_of_gt (Y15 (g := gb101) (o := .cells #[.int .i64 a0_0, .string a0_1, .slice A0_2 l0_2.length c0_2, .slice A0_3 l0_3.length c0_3] 37 (0, 0)) QQ) : gb126 ≠ gb101)); have n12_ := Y0.mk ((by rw [hg]; exact Nat.ne_of_lt (Y15 (g := gb115) (o := .cells #[.int .i64 t105, .string t106, .slice Ao23 t107.length co23, .slice Ao24 t110.length co24] 37 (0, 0)) QQ) : gb115 ≠ gb126)); have n13_ := Y0.mk ((by rw [hg]; exact Nat.ne_of_gt (Y15 (g := gb115) (o := .cells #[.int .i64 t105, .string t106, .slice Ao23 t107.length co23, .slice Ao24 t110.length co24] 37 (0, 0)) QQ) : gb126 ≠ gb115)); clear HO_116002 HO_116003 HO120 HO123 BK101 BK115 HB; have HO_116002 := n0_; have HO_116003 := n1_; have HO120 := n2_; have HO123 := n3_; have BK101 := n4_; have BK115 := n5_; have HB := n6_; have BK126 := n7_; have GW126 := n8_; have GE126 := n9_; have NB101_126 := n10_; have NB126_101 := n11_; have NB115_126 := n12_; have NB126_115 := n13_; clear n0_ n1_ n2_ n3_ n4_ n5_ n6_ n7_ n8_ n9_ n10_ n11_ n12_ n13_ hb hbox hg; have hnb33 := NB126_101.out; have hnc33 := NB101_126.out; have hnb34 := NB126_115.out; have hnc34 := NB115_126.out; obtain ⟨hcz35_0, hcz35_1, hcz35_2, hcz35_3, hfz35_0, hfz35_1, hfz35_2, hfz35_3⟩ := YA BK126.out; obtain ⟨Ao36, co36, eo36⟩ := Kd.R_slice HO120.out; subst eo36; obtain ⟨Ao37, co37, eo37⟩ := Kd.N_slice HO123.out; subst eo37) | (go_at_call 27; (with_reducible refine (YT.calls kj15  t127 _ ?side1 A30.out).mono ?_); (case side1 => exact Z3); rintro e w38 ⟨rfl, hb⟩; have n0_ := Y0.mk (Kd.R_below (by (with_reducible repeat (first | apply Kd.R_alloc | apply Kd.R_drewN | apply Kd.R_drew)); exact (Kd.R_mono (Kd.R_far (p := ⟨gb126, 3, none⟩) (Kd.R_far (p := ⟨gb126, 2, none⟩) (Kd.R_far (p := ⟨gb126, 1, none⟩) (Kd.R_far (p := ⟨gb126, 0, none⟩) (Kd.R_types HO_116002.out BK126.out (by decide)) (fun _ hk => hk.2) (.int .i64 t116)) (fun _ hk => hk.2) (.string t117)) (fun _ hk => hk.2) (.slice Ao36 t118.length co36)) (fun _ hk => hk.2) (.slice Ao37 t121.length co37)) (fun _ h_ => h_.1))) hb); have n1_ := Y0.mk (Kd.N_below (by (with_reducible repeat (first | apply Kd.N_alloc | apply Kd.N_drewN | apply Kd.N_drew)); exact (Kd.N_mono (Kd.N_far (p := ⟨gb126, 3, none⟩) (Kd.N_far (p := ⟨gb126, 2, none⟩) (Kd.N_far (p := ⟨gb126, 1, none⟩) (Kd.N_far (p := ⟨gb126, 0, none⟩) (Kd.N_mono HO_116003.out (fun k_ hk => (⟨hk, hk.2⟩ : _ ∧ k_ ≠ gb126))) (fun _ hk => hk.2) (.int .i64 t116)) (fun _ hk => hk.2) (.string t117)) (fun _ hk => hk.2) (.slice Ao36 t118.length co36)) (fun _ hk => hk.2) (.slice Ao37 t121.length co37)) (fun _ h_ => h_.1))) hb); have n2_ := Y0.mk (Kd.R_below (by (with_reducible repeat (first | apply Kd.R_alloc | apply Kd.R_drewN | apply Kd.R_drew)); exact (Kd.R_mono (Kd.R_far (p := ⟨gb126, 3, none⟩) (Kd.R_far (p := ⟨gb126, 2, none⟩) (Kd.R_far (p := ⟨gb126, 1, none⟩) (Kd.R_far (p := ⟨gb126, 0, none⟩) (Kd.R_types HO120.out BK126.out (by decide)) (fun _ hk => hk.2) (.int .i64 t116)) (fun _ hk => hk.2) (.string t117)) (fun _ hk => hk.2) (.slice Ao36 t118.length co36)) (fun _ hk => hk.2) (.slice Ao37 t121.length co37)) (fun _ h_ => h_.1))) hb); have n3_ := Y0.mk (Kd.N_below (by (with_reducible repeat (first | apply Kd.N_alloc | apply Kd.N_drewN | apply Kd.N_drew)); exact (Kd.N_mono (Kd.N_far (p := ⟨gb126, 3, none⟩) (Kd.N_far (p := ⟨gb126, 2, none⟩) (Kd.N_far (p := ⟨gb126, 1, none⟩) (Kd.N_far (p := ⟨gb126, 0, none⟩) (Kd.N_mono HO123.out (fun k_ hk => (⟨hk, hk.2⟩ : _ ∧ k_ ≠ gb126))) (fun _ hk => hk.2) (.int .i64 t116)) (fun _ hk => hk.2) (.string t117)) (fun _ hk => hk.2) (.slice Ao36 t118.length co36)) (fun _ hk => hk.2) (.slice Ao37 t121.length co37)) (fun _ h_ => h_.1))) hb); have n4_ := Y0.mk (Yu (g := gb101) (o := .cells #[.int .i64 a0_0, .string a0_1, .slice A0_2 l0_2.length c0_2, .slice A0_3 l0_3.length c0_3] 37 (0, 0)) (by (with_reducible repeat (first | refine Yg ?_ _ | refine Ya ?_ | refine Ye ?_ _)); exact Y14 (by (with_reducible repeat (first | refine Yg ?_ _ | refine Ya ?_ | refine Ye ?_ _)); exact Y14 (by (with_reducible repeat (first | refine Yg ?_ _ | refine Ya ?_ | refine Ye ?_ _)); exact Y14 (by (with_reducible repeat (first | refine Yg ?_ _ | refine Ya ?_ | refine Ye ?_ _)); exact Y14 QQ NB101_126.out _) NB101_126.out _) NB101_126.out _) NB101_126.out _) hb); have n5_ := Y0.mk (Yu (g := gb115) (o := .cells #[.int .i64 t105, .string t106, .slice Ao23 t107.length co23, .slice Ao24 t110.length co24] 37 (0, 0)) (by (with_reducible repeat (first | refine Yg ?_ _ | refine Ya ?_ | refine Ye ?_ _)); exact Y14 (by (with_reducible repeat (first | refine Yg ?_ _ | refine Ya ?_ | refine Ye ?_ _)); exact Y14 (by (with_reducible repeat (first | refine Yg ?_ _ | refine Ya ?_ | refine Ye ?_ _)); exact Y14 (by (with_reducible repeat (first | refine Yg ?_ _ | refine Ya ?_ | refine Ye ?_ _)); exact Y14 QQ NB115_126.out _) NB115_126.out _) NB115_126.out _) NB115_126.out _) hb); have n6_ := Y0.mk (Yu (g := gb126) (o := .cells #[.int .i64 t116, .string t117, .slice Ao36 t118.length co36, .slice Ao37 t121.length co37] 37 (0, 0)) (by (with_reducible repeat (first | refine Yg ?_ _ | refine Ya ?_ | refine Ye ?_ _)); exact YD (cs := #[.int .i64 t116, .string t117, .slice Ao36 t118.length co36, .slice none 0 0]) (by (with_reducible repeat (first | refine Yg ?_ _ | refine Ya ?_ | refine Ye ?_ _)); exact YD (cs := #[.int .i64 t116, .string t117, .slice none 0 0, .slice none 0 0]) (by (with_reducible repeat (first | refine Yg ?_ _ | refine Ya ?_ | refine Ye ?_ _)); exact YD (cs := #[.int .i64 t116, .string (⟨#[]⟩ : ByteArray), .slice none 0 0, .slice none 0 0]) Z1 1 _ rfl) 2 _ rfl) 3 _ rfl) hb); have n7_ := Y0.mk (Yb QB hb); clear HO_116002 HO_116003 HO120 HO123 BK101 BK115 BK126 HB; have HO_116002 := n0_; have HO_116003 := n1_; have HO120 := n2_; have HO123 := n3_; have BK101 := n4_; have BK115 := n5_; have BK126 := n6_; have HB := n7_; clear n0_ n1_ n2_ n3_ n4_ n5_ n6_ n7_; (try clear hb); (try clear hb2); (try clear hk); (try clear hi)))
         go_ret
         exact Z2d
        ·rw [if_neg c29] at H
         have c29b0 : (t113 == t124) = false := beq_eq_false_iff_ne.mpr c29
         have c29b1 : (t113 != t124) = true := bne_iff_ne.mpr c29
         obtain rfl := Option.some.inj H
         go_wp2_with (first | ((with_reducible refine Yn (f := 26) rfl ?_); refine YO (some 33) rfl rfl Tryd.func26 Z6 rfl #[.string t104] rfl Z0 ?_; (with_reducible refine (YC.calls kj15 t104 t116 t117 t118 t121 t124 t125 _ ?side1 A27.out).mono ?_); (case side1 => exact Z3); rintro e w39 ⟨v119, v122, rfl, ho0, ho1, hb⟩; refine ⟨_, rfl, ?_⟩; have n0_ := Y0.mk (Kd.R_elder' Zb (Kd.R_base ho0) hb); have n1_ := Y0.mk (Kd.N_mono (Kd.N_told (Kd.N_told (Kd.N_old Ze hb) (Kd.R_base ho0)) (Kd.N_base ho1)) (fun _ h_ => h_.1)); have n2_ := Y0.mk (Kd.R_lower (Kd.R_new' (Kd.R_mono (ok' := fun k_ => True) ho0 (fun _ hk_ => trivial)) (Kd.R_lt Zb)) (Ym QB)); have n3_ := Y0.mk (Kd.N_lower (Kd.N_mono (ok' := fun k_ => some k_ ≠ (v119 : Value).ownBlock ∧ some k_ ≠ (.slice Ao23 t107.length co23 : Value).ownBlock ∧ some k_ ≠ (.slice Ao24 t110.length co24 : Value).ownBlock ∧ k_ ≠ gb101 ∧ k_ ≠ gb115) ho1 (fun k_ hk_ => ⟨hk_.2, (Kd.fresh' (Kd.R_lt Zb) k_ hk_.1), (Kd.fresh' (Kd.N_lt Ze) k_ hk_.1), (Kd.freshB (g := gb101) (o := .cells #[.int .i64 a0_0, .string a0_1, .slice A0_2 l0_2.length c0_2, .slice A0_3 l0_3.length c0_3] 37 (0, 0)) QQ k_ hk_.1), (Kd.freshB (g := gb115) (o := .cells #[.int .i64 t105, .string t106, .slice Ao23 t107.length co23, .slice Ao24 t110.length co24] 37 (0, 0)) QQ k_ hk_.1)⟩)) (Ym QB)); have n4_ := Y0.mk (Yu (g := gb101) (o := .cells #[.int .i64 a0_0, .string a0_1, .slice A0_2 l0_2.length c0_2, .slice A0_3 l0_3.length c0_3] 37 (0, 0)) QQ hb); have n5_ := Y0.mk (Yu (g := gb115) (o := .cells #[.int .i64 t105, .string t106, .slice Ao23 t107.length co23, .slice Ao24 t110.length co24] 37 (0, 0)) QQ hb); have n6_ := Y0.mk (Yb QB hb); clear HO_116002 HO_116003 BK101 BK115 HB; have HO_116002 := n0_; have HO_116003 := n1_; have HO120 := n2_; have HO123 := n3_; have BK101 := n4_; have BK115 := n5_; have HB := n6_; clear n0_ n1_ n2_ n3_ n4_ n5_ n6_; (try clear hb); (try clear hb2); (try clear hk); (try clear hi); (try clear ho0); (try clear ho1)) | ((with_reducible refine YF (N := 7) rfl ?_); (try (refine YX (by rfl) ?_; dsimp only)); refine YE ?hg (N := 7) ?hd (cs := #[.int .i64 0, .string (⟨#[]⟩ : ByteArray), .slice none 0 0, .slice none 0 0]) (t := 37) ?hr ?_; (case hd => rfl); (case hg => rfl); (case hr => exact Za); intro gb126 hg w40 hbox hb; have n0_ := Y0.mk (Kd.R_below Zb hb); have n1_ := Y0.mk (Kd.N_below (Kd.N_elderB Ze gb126 (Nat.le_of_eq hg.symm)) hb); have n2_ := Y0.mk (Kd.R_below Z1h hb); have n3_ := Y0.mk (Kd.N_below (Kd.N_elderB Z1f gb126 (Nat.le_of_eq hg.symm)) hb); have n4_ := Y0.mk (Yu (g := gb101) (o := .cells #[.int .i64 a0_0, .string a0_1, .slice A0_2 l0_2.length c0_2, .slice A0_3 l0_3.length c0_3] 37 (0, 0)) QQ hb); have n5_ := Y0.mk (Yu (g := gb115) (o := .cells #[.int .i64 t105, .string t106, .slice Ao23 t107.length co23, .slice Ao24 t110.length co24] 37 (0, 0)) QQ hb); have n6_ := Y0.mk (Yb QB hb); have n7_ := Y0.mk (hbox); have n8_ := Y0.mk ((by rw [hg]; exact (Ym QB) : w.heap.size ≤ gb126)); have n9_ := Y0.mk ((by rw [hg]; exact (Ym QB) : w.heap.size ≤ gb126)); have n10_ := Y0.mk ((by rw [hg]; exact Nat.ne_of_lt (Y15 (g := gb101) (o := .cells #[.int .i64 a0_0, .string a0_1, .slice A0_2 l0_2.length c0_2, .slice A0_3 l0_3.length c0_3] 37 (0, 0)) QQ) : gb101 ≠ gb126)); have n11_ := Y0.mk ((by rw [hg]; exact Nat.ne_of_gt (Y15 (g := gb101) (o := .cells #[.int .i64 a0_0, .string a0_1, .slice A0_2 l0_2.length c0_2, .slice A0_3 l0_3.length c0_3] 37 (0, 0)) QQ) : gb126 ≠ gb101)); have n12_ := Y0.mk ((by rw [hg]; exact Nat.ne_of_lt (Y15 (g := gb115) (o := .cells #[.int .i64 t105, .string t106, .slice Ao23 t107.length co23, .slice Ao24 t110.length co24] 37 (0, 0)) QQ) : gb115 ≠ gb126)); have n13_ := Y0.mk ((by rw [hg]; exact Nat.ne_of_gt (Y15 (g := gb115) (o := .cells #[.int .i64 t105, .string t106, .slice Ao23 t107.length co23, .slice Ao24 t110.length co24] 37 (0, 0)) QQ) : gb126 ≠ gb115)); clear HO_116002 HO_116003 HO120 HO123 BK101 BK115 HB; have HO_116002 := n0_; have HO_116003 := n1_; have HO120 := n2_; have HO123 := n3_; have BK101 := n4_; have BK115 := n5_; have HB := n6_; have BK126 := n7_; have GW126 := n8_; have GE126 := n9_; have NB101_126 := n10_; have NB126_101 := n11_; have NB115_126 := n12_; have NB126_115 := n13_; clear n0_ n1_ n2_ n3_ n4_ n5_ n6_ n7_ n8_ n9_ n10_ n11_ n12_ n13_ hb hbox hg; have hnb41 := NB126_101.out; have hnc41 := NB101_126.out; have hnb42 := NB126_115.out; have hnc42 := NB115_126.out; obtain ⟨hcz43_0, hcz43_1, hcz43_2, hcz43_3, hfz43_0, hfz43_1, hfz43_2, hfz43_3⟩ := YA BK126.out; obtain ⟨Ao44, co44, eo44⟩ := Kd.R_slice HO120.out; subst eo44; obtain ⟨Ao45, co45, eo45⟩ := Kd.N_slice HO123.out; subst eo45))
         go_ret
         exact Z2d
       ·rw [if_neg c28] at H
        have c28b0 : (t114 == t125) = false := beq_eq_false_iff_ne.mpr c28
        have c28b1 : (t114 != t125) = true := bne_iff_ne.mpr c28
        obtain rfl := Option.some.inj H
        go_wp2_with (first | ((with_reducible refine Yn (f := 26) rfl ?_); refine YO (some 33) rfl rfl Tryd.func26 Z6 rfl #[.string t104] rfl Z0 ?_; (with_reducible refine (YC.calls kj15 t104 t116 t117 t118 t121 t124 t125 _ ?side1 A27.out).mono ?_); (case side1 => exact Z3); rintro e w46 ⟨v119, v122, rfl, ho0, ho1, hb⟩; refine ⟨_, rfl, ?_⟩; have n0_ := Y0.mk (Kd.R_elder' Zb (Kd.R_base ho0) hb); have n1_ := Y0.mk (Kd.N_mono (Kd.N_told (Kd.N_told (Kd.N_old Ze hb) (Kd.R_base ho0)) (Kd.N_base ho1)) (fun _ h_ => h_.1)); have n2_ := Y0.mk (Kd.R_lower (Kd.R_new' (Kd.R_mono (ok' := fun k_ => True) ho0 (fun _ hk_ => trivial)) (Kd.R_lt Zb)) (Ym QB)); have n3_ := Y0.mk (Kd.N_lower (Kd.N_mono (ok' := fun k_ => some k_ ≠ (v119 : Value).ownBlock ∧ some k_ ≠ (.slice Ao23 t107.length co23 : Value).ownBlock ∧ some k_ ≠ (.slice Ao24 t110.length co24 : Value).ownBlock ∧ k_ ≠ gb101 ∧ k_ ≠ gb115) ho1 (fun k_ hk_ => ⟨hk_.2, (Kd.fresh' (Kd.R_lt Zb) k_ hk_.1), (Kd.fresh' (Kd.N_lt Ze) k_ hk_.1), (Kd.freshB (g := gb101) (o := .cells #[.int .i64 a0_0, .string a0_1, .slice A0_2 l0_2.length c0_2, .slice A0_3 l0_3.length c0_3] 37 (0, 0)) QQ k_ hk_.1), (Kd.freshB (g := gb115) (o := .cells #[.int .i64 t105, .string t106, .slice Ao23 t107.length co23, .slice Ao24 t110.length co24] 37 (0, 0)) QQ k_ hk_.1)⟩)) (Ym QB)); have n4_ := Y0.mk (Yu (g := gb101) (o := .cells #[.int .i64 a0_0, .string a0_1, .slice A0_2 l0_2.length c0_2, .slice A0_3 l0_3.length c0_3] 37 (0, 0)) QQ hb); have n5_ := Y0.mk (Yu (g := gb115) (o := .cells #[.int .i64 t105, .string t106, .slice Ao23 t107.length co23, .slice Ao24 t110.length co24] 37 (0, 0)) QQ hb); have n6_ := Y0.mk (Yb QB hb); clear HO_116002 HO_116003 BK101 BK115 HB; have HO_116002 := n0_; have HO_116003 := n1_; have HO120 := n2_; have HO123 := n3_; have BK101 := n4_; have BK115 := n5_; have HB := n6_; clear n0_ n1_ n2_ n3_ n4_ n5_ n6_; (try clear hb); (try clear hb2); (try clear hk); (try clear hi); (try clear ho0); (try clear ho1)) | ((with_reducible refine YF (N := 7) rfl ?_); (try (refine YX (by rfl) ?_; dsimp only)); refine YE ?hg (N := 7) ?hd (cs := #[.int .i64 0, .string (⟨#[]⟩ : ByteArray), .slice none 0 0, .slice none 0 0]) (t := 37) ?hr ?_; (case hd => rfl); (case hg => rfl); (case hr => exact Za); intro gb126 hg w47 hbox hb; have n0_ := Y0.mk (Kd.R_below Zb hb); have n1_ := Y0.mk (Kd.N_below (Kd.N_elderB Ze gb126 (Nat.le_of_eq hg.symm)) hb); have n2_ := Y0.mk (Kd.R_below Z1h hb); have n3_ := Y0.mk (Kd.N_below (Kd.N_elderB Z1f gb126 (Nat.le_of_eq hg.symm)) hb); have n4_ := Y0.mk (Yu (g := gb101) (o := .cells #[.int .i64 a0_0, .string a0_1, .slice A0_2 l0_2.length c0_2, .slice A0_3 l0_3.length c0_3] 37 (0, 0)) QQ hb); have n5_ := Y0.mk (Yu (g := gb115) (o := .cells #[.int .i64 t105, .string t106, .slice Ao23 t107.length co23, .slice Ao24 t110.length co24] 37 (0, 0)) QQ hb); have n6_ := Y0.mk (Yb QB hb); have n7_ := Y0.mk (hbox); have n8_ := Y0.mk ((by rw [hg]; exact (Ym QB) : w.heap.size ≤ gb126)); have n9_ := Y0.mk ((by rw [hg]; exact (Ym QB) : w.heap.size ≤ gb126)); have n10_ := Y0.mk ((by rw [hg]; exact Nat.ne_of_lt (Y15 (g := gb101) (o := .cells #[.int .i64 a0_0, .string a0_1, .slice A0_2 l0_2.length c0_2, .slice A0_3 l0_3.length c0_3] 37 (0, 0)) QQ) : gb101 ≠ gb126)); have n11_ := Y0.mk ((by rw [hg]; exact Nat.ne_of_gt (Y15 (g := gb101) (o := .cells #[.int .i64 a0_0, .string a0_1, .slice A0_2 l0_2.length c0_2, .slice A0_3 l0_3.length c0_3] 37 (0, 0)) QQ) : gb126 ≠ gb101)); have n12_ := Y0.mk ((by rw [hg]; exact Nat.ne_of_lt (Y15 (g := gb115) (o := .cells #[.int .i64 t105, .string t106, .slice Ao23 t107.length co23, .slice Ao24 t110.length co24] 37 (0, 0)) QQ) : gb115 ≠ gb126)); have n13_ := Y0.mk ((by rw [hg]; exact Nat.ne_of_gt (Y15 (g := gb115) (o := .cells #[.int .i64 t105, .string t106, .slice Ao23 t107.length co23, .slice Ao24 t110.length co24] 37 (0, 0)) QQ) : gb126 ≠ gb115)); clear HO_116002 HO_116003 HO120 HO123 BK101 BK115 HB; have HO_116002 := n0_; have HO_116003 := n1_; have HO120 := n2_; have HO123 := n3_; have BK101 := n4_; have BK115 := n5_; have HB := n6_; have BK126 := n7_; have GW126 := n8_; have GE126 := n9_; have NB101_126 := n10_; have NB126_101 := n11_; have NB115_126 := n12_; have NB126_115 := n13_; clear n0_ n1_ n2_ n3_ n4_ n5_ n6_ n7_ n8_ n9_ n10_ n11_ n12_ n13_ hb hbox hg; have hnb48 := NB126_101.out; have hnc48 := NB101_126.out; have hnb49 := NB126_115.out; have hnc49 := NB115_126.out; obtain ⟨hcz50_0, hcz50_1, hcz50_2, hcz50_3, hfz50_0, hfz50_1, hfz50_2, hfz50_3⟩ := YA BK126.out; obtain ⟨Ao51, co51, eo51⟩ := Kd.R_slice HO120.out; subst eo51; obtain ⟨Ao52, co52, eo52⟩ := Kd.N_slice HO123.out; subst eo52))
        go_ret
        exact Z2d
      ·replace c26 := Bool.eq_false_iff.mpr c26
       subst c26
       have H1 : (if t114 = 0 then (if t113 = (t104.size : Int) then ((Y6.f kj15 a0_0 a0_1 l0_2 l0_3 t105 t106 t107 t110).bind fun t128 => (if t128 = true then ((YT.f kj15).bind fun t129 => (some t129)) else (some false))) else (some false)) else (some false)) = some r := by rw [if_neg (show ¬ (false = true) by decide)] at H; exact H
       clear H
       have H := H1
       clear H1
       by_cases c53 : t114 = 0
       ·rw [if_pos c53] at H
        have c53b0 : (t114 == 0) = true := beq_iff_eq.mpr c53
        have c53b1 : (t114 != 0) = false := bne_eq_false_iff_eq.mpr c53
        clear c53
        by_cases c54 : t113 = (t104.size : Int)
        ·rw [if_pos c54] at H
         have c54b0 : (t113 == (t104.size : Int)) = true := beq_iff_eq.mpr c54
         have c54b1 : (t113 != (t104.size : Int)) = false := bne_eq_false_iff_eq.mpr c54
         clear c54
         replace H := Option.bind_eq_some_iff.mp H
         obtain ⟨t128, A550, H⟩ := H
         replace H : (if t128 = true then ((YT.f kj15).bind fun t129 => (some t129)) else (some false)) = some r := H
         have A55 := Y0.mk A550
         clear A550
         by_cases c56 : t128 = true
         ·subst c56
          have H1 : ((YT.f kj15).bind fun t129 => (some t129)) = some r := by rw [if_pos rfl] at H; exact H
          clear H
          have H := H1
          clear H1
          replace H := Option.bind_eq_some_iff.mp H
          obtain ⟨t129, A570, H⟩ := H
          replace H : (some t129) = some r := H
          have A57 := Y0.mk A570
          clear A570
          obtain rfl := Option.some.inj H
          have hnb58 := NB101_115.out
          have hnc58 := NB115_101.out
          obtain ⟨hcz59_0, hcz59_1, hcz59_2, hcz59_3, hfz59_0, hfz59_1, hfz59_2, hfz59_3⟩ := YA BK101.out
          obtain ⟨hcz60_0, hcz60_1, hcz60_2, hcz60_3, hfz60_0, hfz60_1, hfz60_2, hfz60_3⟩ := YA BK115.out
          go_wp2_with (first | (go_at_call 28; (with_reducible refine (Y6.calls kj15 a0_0 a0_1 _ _ l0_2 _ _ l0_3 t105 t106 _ _ t107 _ _ t110 true _ ?side1 ?side2 ?side3 ?side4 ?side5 ?side6 ?side7 ?side8 A55.out).mono ?_); (case side1 => exact Zd); (case side2 => exact Z1N); (case side3 => exact Zg); (case side4 => exact Z1V); (case side5 => exact Z1u); (case side6 => exact (Kd.R_reads' HO_116002.out).2.1); (case side7 => exact Z1t); (case side8 => exact (Kd.N_reads' HO_116003.out).2.1); rintro e w61 ⟨rfl, hb⟩; have n_ := Y4k (Kd.R_below Zb hb) (Kd.N_below Ze hb) (Yu (g := gb101) (o := .cells #[.int .i64 a0_0, .string a0_1, .slice A0_2 l0_2.length c0_2, .slice A0_3 l0_3.length c0_3] 37 (0, 0)) QQ hb) (Yu (g := gb115) (o := .cells #[.int .i64 t105, .string t106, .slice Ao23 t107.length co23, .slice Ao24 t110.length co24] 37 (0, 0)) QQ hb) (Yb QB hb); clear HO_116002 HO_116003 BK101 BK115 HB; obtain ⟨HO_116002, HO_116003, BK101, BK115, HB⟩ := n_; (try clear hb); (try clear hb2); (try clear hk); (try clear hi)) | (go_at_call 27; (with_reducible refine (YT.calls kj15  t129 _ ?side1 A57.out).mono ?_); (case side1 => exact Z3); rintro e w62 ⟨rfl, hb⟩; have n_ := Y4k (Kd.R_below Zb hb) (Kd.N_below Ze hb) (Yu (g := gb101) (o := .cells #[.int .i64 a0_0, .string a0_1, .slice A0_2 l0_2.length c0_2, .slice A0_3 l0_3.length c0_3] 37 (0, 0)) QQ hb) (Yu (g := gb115) (o := .cells #[.int .i64 t105, .string t106, .slice Ao23 t107.length co23, .slice Ao24 t110.length co24] 37 (0, 0)) QQ hb) (Yb QB hb); clear HO_116002 HO_116003 BK101 BK115 HB; obtain ⟨HO_116002, HO_116003, BK101, BK115, HB⟩ := n_; (try clear hb); (try clear hb2); (try clear hk); (try clear hi)))
          go_ret
          exact Z2d
         ·replace c56 := Bool.eq_false_iff.mpr c56
          subst c56
          have H1 : (some false) = some r := by rw [if_neg (show ¬ (false = true) by decide)] at H; exact H
          clear H
          have H := H1
          clear H1
          obtain rfl := Option.some.inj H
          have hnb63 := NB101_115.out
          have hnc63 := NB115_101.out
          obtain ⟨hcz64_0, hcz64_1, hcz64_2, hcz64_3, hfz64_0, hfz64_1, hfz64_2, hfz64_3⟩ := YA BK101.out
          obtain ⟨hcz65_0, hcz65_1, hcz65_2, hcz65_3, hfz65_0, hfz65_1, hfz65_2, hfz65_3⟩ := YA BK115.out
          go_wp2_with (first | (go_at_call 28; (with_reducible refine (Y6.calls kj15 a0_0 a0_1 _ _ l0_2 _ _ l0_3 t105 t106 _ _ t107 _ _ t110 false _ ?side1 ?side2 ?side3 ?side4 ?side5 ?side6 ?side7 ?side8 A55.out).mono ?_); (case side1 => exact Zd); (case side2 => exact Z1N); (case side3 => exact Zg); (case side4 => exact Z1V); (case side5 => exact Z1u); (case side6 => exact (Kd.R_reads' HO_116002.out).2.1); (case side7 => exact Z1t); (case side8 => exact (Kd.N_reads' HO_116003.out).2.1); rintro e w66 ⟨rfl, hb⟩; have n_ := Y4k (Kd.R_below Zb hb) (Kd.N_below Ze hb) (Yu (g := gb101) (o := .cells #[.int .i64 a0_0, .string a0_1, .slice A0_2 l0_2.length c0_2, .slice A0_3 l0_3.length c0_3] 37 (0, 0)) QQ hb) (Yu (g := gb115) (o := .cells #[.int .i64 t105, .string t106, .slice Ao23 t107.length co23, .slice Ao24 t110.length co24] 37 (0, 0)) QQ hb) (Yb QB hb); clear HO_116002 HO_116003 BK101 BK115 HB; obtain ⟨HO_116002, HO_116003, BK101, BK115, HB⟩ := n_; (try clear hb); (try clear hb2); (try clear hk); (try clear hi)))
          go_ret
          exact Z2d
        ·rw [if_neg c54] at H
         have c54b0 : (t113 == (t104.size : Int)) = false := beq_eq_false_iff_ne.mpr c54
         have c54b1 : (t113 != (t104.size : Int)) = true := bne_iff_ne.mpr c54
         obtain rfl := Option.some.inj H
         go_wp2
         go_ret
         exact Z2d
       ·rw [if_neg c53] at H
        have c53b0 : (t114 == 0) = false := beq_eq_false_iff_ne.mpr c53
        have c53b1 : (t114 != 0) = true := bne_iff_ne.mpr c53
        obtain rfl := Option.some.inj H
        go_wp2
        go_ret
        exact Z2d
def YM.l0 : Nat → List ByteArray → List ByteArray → Int → Int → Option (Bool)
 | 0, _, _, _, _ => none
 | k + 1, x0, x1, x12, x13 => if x13 < x12 then (if 0 ≤ x13 then (if x13 < (x0.length : Int) then (if x13 < (x1.length : Int) then (if (Y37 ByteArray.empty x0 x13).toList = (Y37 ByteArray.empty x1 x13).toList then (YM.l0 k x0 x1 x12 (wrap64 (x13 + 1))) else (some false)) else (none)) else (none)) else (none)) else (some true)
def YM.f (k : Nat) (l0 : List ByteArray) (l1 : List ByteArray) : Option (Bool) := if (l0.length : Int) = (l1.length : Int) then (YM.l0 k l0 l1 (l0.length : Int) 0) else (some false)
theorem YM.mono_l : ∀ k, (∀ y0 y1 y2 y3, LeO (YM.l0 k y0 y1 y2 y3) (YM.l0 (k + 1) y0 y1 y2 y3))
 | 0 => fun _ _ _ _ r h => by simp [YM.l0] at h
 | k + 1 => by
  have ih0 := YM.mono_l k
  ·intro y0 y1 y2 y3
   unfold YM.l0
   exact QM
theorem YM.mono : ∀ a0 a1 k, LeO (YM.f k a0 a1) (YM.f (k + 1) a0 a1) := by
 intro a0 a1 k
 have ih0 := YM.mono_l k
 unfold YM.f
 exact QM
mutual
def Y1N.f : Nat → Int → ByteArray → List ByteArray → List (S37) → Int → ByteArray → List ByteArray → List (S37) → Option (Bool)
 | 0, _, _, _, _, _, _, _, _ => none
 | k + 1, a0_0, a0_1, l0_2, l0_3, a1_0, a1_1, l1_2, l1_3 => if a0_0 = a1_0 then (if a0_1.toList = a1_1.toList then ((YM.f k l0_2 l1_2).bind fun t103 => (if t103 = true then ((Y2i.f k l0_3 l1_3).bind fun t104 => (some t104)) else (some false))) else (some false)) else (some false)
def Y2i.l0 : Nat → List (S37) → List (S37) → Int → Int → Option (Bool)
 | 0, _, _, _, _ => none
 | k + 1, x1, x15, x16, x17 => if x17 < x16 then (if 0 ≤ x17 then (if x17 < (x15.length : Int) then (if x17 < (x1.length : Int) then ((Y1N.f k ((Yk x15 x17).f0) ((Yk x15 x17).f1) ((Yk x15 x17).f2) ((Yk x15 x17).f3) ((Yk x1 x17).f0) ((Yk x1 x17).f1) ((Yk x1 x17).f2) ((Yk x1 x17).f3)).bind fun t109 => (if t109 = true then (Y2i.l0 k x1 x15 x16 (wrap64 (x17 + 1))) else (some false))) else (none)) else (none)) else (none)) else (some true)
def Y2i.f : Nat → List (S37) → List (S37) → Option (Bool)
 | 0, _, _ => none
 | k + 1, l0, l1 => if (l0.length : Int) = (l1.length : Int) then (Y2i.l0 k l1 l0 (l0.length : Int) 0) else (some false)
end
theorem Y1N.mono_j : ∀ k, (∀ y0 y1 y2 y3 y4 y5 y6 y7, LeO (Y1N.f k y0 y1 y2 y3 y4 y5 y6 y7) (Y1N.f (k + 1) y0 y1 y2 y3 y4 y5 y6 y7)) ∧ (∀ y0 y1, LeO (Y2i.f k y0 y1) (Y2i.f (k + 1) y0 y1)) ∧ (∀ y0 y1 y2 y3, LeO (Y2i.l0 k y0 y1 y2 y3) (Y2i.l0 (k + 1) y0 y1 y2 y3))
 | 0 => ⟨fun _ _ _ _ _ _ _ _ r h => by simp [Y1N.f] at h, fun _ _ r h => by simp [Y2i.f] at h, fun _ _ _ _ r h => by simp [Y2i.l0] at h⟩
 | k + 1 => by
  obtain ⟨ih0, ih1, ih2⟩ := Y1N.mono_j k
  refine ⟨?_, ?_, ?_⟩
  ·intro y0 y1 y2 y3 y4 y5 y6 y7
   unfold Y1N.f
   exact QM
  ·intro y0 y1
   unfold Y2i.f
   exact QM
  ·intro y0 y1 y2 y3
   unfold Y2i.l0
   exact QM
def Y2c.f (a0 : Int) : Option (ByteArray) := if a0 = 5 then (some (⟨#[42]⟩ : ByteArray)) else (if a0 = 6 then (some (⟨#[43]⟩ : ByteArray)) else (some (⟨#[63]⟩ : ByteArray)))
mutual
def YL.l0 : Nat → ByteArray → Int → Int → ByteArray → List ByteArray → List (S37) → Option (ByteArray)
 | 0, _, _, _, _, _, _ => none
 | k + 1, x3, x4, x102000, x102001, x102002, x102003 => if x4 < (x102002.length : Int) then (if x4 > 0 then (if x3.size + 1 ≤ 9223372036854775807 then (if x3.size + 1 + 1 ≤ 9223372036854775807 then (if 0 ≤ x4 then (if x3.size + 1 + 1 + (Y37 ByteArray.empty x102002 x4).size ≤ 9223372036854775807 then (if x3.size + 1 + 1 + ((Y37 ByteArray.empty x102002 x4).size) + 1 ≤ 9223372036854775807 then (YL.l0 k ((((x3 ++ (⟨#[124]⟩ : ByteArray)) ++ (⟨#[60]⟩ : ByteArray)) ++ (Y37 ByteArray.empty x102002 x4)) ++ (⟨#[62]⟩ : ByteArray)) (wrap64 (x4 + 1)) x102000 x102001 x102002 x102003) else (none)) else (none)) else (none)) else (none)) else (none)) else (if x3.size + 1 ≤ 9223372036854775807 then (if 0 ≤ x4 then (if x3.size + 1 + (Y37 ByteArray.empty x102002 x4).size ≤ 9223372036854775807 then (if x3.size + 1 + ((Y37 ByteArray.empty x102002 x4).size) + 1 ≤ 9223372036854775807 then (YL.l0 k (((x3 ++ (⟨#[60]⟩ : ByteArray)) ++ (Y37 ByteArray.empty x102002 x4)) ++ (⟨#[62]⟩ : ByteArray)) (wrap64 (x4 + 1)) x102000 x102001 x102002 x102003) else (none)) else (none)) else (none)) else (none))) else (if x3.size + 1 ≤ 9223372036854775807 then (some (x3 ++ (⟨#[41]⟩ : ByteArray))) else (none))
def YL.f : Nat → Int → ByteArray → List ByteArray → List (S37) → Option (ByteArray)
 | 0, _, _, _, _ => none
 | k + 1, a0_0, a0_1, l0_2, l0_3 => if a0_0 = 1 then (if 1 + a0_1.size ≤ 9223372036854775807 then (if 1 + a0_1.size + 1 ≤ 9223372036854775807 then (some (((⟨#[60]⟩ : ByteArray) ++ a0_1) ++ (⟨#[62]⟩ : ByteArray))) else (none)) else (none)) else (if a0_0 = 2 then (if 0 < (l0_3.length : Int) then ((YY.f k ((Yk l0_3 0).f0) ((Yk l0_3 0).f1) ((Yk l0_3 0).f2) ((Yk l0_3 0).f3)).bind fun t103 => (if 1 + t103.size ≤ 9223372036854775807 then (some ((⟨#[94]⟩ : ByteArray) ++ t103)) else (none))) else (none)) else (if a0_0 = 3 then (if 0 < (l0_3.length : Int) then ((YY.f k ((Yk l0_3 0).f0) ((Yk l0_3 0).f1) ((Yk l0_3 0).f2) ((Yk l0_3 0).f3)).bind fun t105 => (if t105.size + 1 ≤ 9223372036854775807 then (if 1 < (l0_3.length : Int) then ((YY.f k ((Yk l0_3 1).f0) ((Yk l0_3 1).f1) ((Yk l0_3 1).f2) ((Yk l0_3 1).f3)).bind fun t107 => (if t105.size + 1 + t107.size ≤ 9223372036854775807 then (some ((t105 ++ (⟨#[47]⟩ : ByteArray)) ++ t107)) else (none))) else (none)) else (none))) else (none)) else (if a0_0 = 4 then (if 0 < (l0_3.length : Int) then ((YY.f k ((Yk l0_3 0).f0) ((Yk l0_3 0).f1) ((Yk l0_3 0).f2) ((Yk l0_3 0).f3)).bind fun t109 => (if t109.size + 1 ≤ 9223372036854775807 then (if 1 < (l0_3.length : Int) then ((YY.f k ((Yk l0_3 1).f0) ((Yk l0_3 1).f1) ((Yk l0_3 1).f2) ((Yk l0_3 1).f3)).bind fun t111 => (if t109.size + 1 + t111.size ≤ 9223372036854775807 then (some ((t109 ++ (⟨#[124]⟩ : ByteArray)) ++ t111)) else (none))) else (none)) else (none))) else (none)) else (if a0_0 = 8 then (YL.l0 k (⟨#[33, 40]⟩ : ByteArray) 0 a0_0 a0_1 l0_2 l0_3) else (if 0 < (l0_3.length : Int) then ((YY.f k ((Yk l0_3 0).f0) ((Yk l0_3 0).f1) ((Yk l0_3 0).f2) ((Yk l0_3 0).f3)).bind fun t115 => ((Y2c.f a0_0).bind fun t116 => (if t115.size + t116.size ≤ 9223372036854775807 then (some (t115 ++ t116)) else (none)))) else (none))))))
def YY.f : Nat → Int → ByteArray → List ByteArray → List (S37) → Option (ByteArray)
 | 0, _, _, _, _ => none
 | k + 1, a0_0, a0_1, l0_2, l0_3 => if a0_0 = 1 then ((YL.f k a0_0 a0_1 l0_2 l0_3).bind fun t118 => (some t118)) else ((YL.f k a0_0 a0_1 l0_2 l0_3).bind fun t119 => (if 1 + t119.size ≤ 9223372036854775807 then (if 1 + t119.size + 1 ≤ 9223372036854775807 then (some (((⟨#[40]⟩ : ByteArray) ++ t119) ++ (⟨#[41]⟩ : ByteArray))) else (none)) else (none)))
end
theorem YL.mono_j : ∀ k, (∀ y0 y1 y2 y3, LeO (YL.f k y0 y1 y2 y3) (YL.f (k + 1) y0 y1 y2 y3)) ∧ (∀ y0 y1 y2 y3 y4 y5, LeO (YL.l0 k y0 y1 y2 y3 y4 y5) (YL.l0 (k + 1) y0 y1 y2 y3 y4 y5)) ∧ (∀ y0 y1 y2 y3, LeO (YY.f k y0 y1 y2 y3) (YY.f (k + 1) y0 y1 y2 y3))
 | 0 => ⟨fun _ _ _ _ r h => by simp [YL.f] at h, fun _ _ _ _ _ _ r h => by simp [YL.l0] at h, fun _ _ _ _ r h => by simp [YY.f] at h⟩
 | k + 1 => by
  obtain ⟨ih0, ih1, ih2⟩ := YL.mono_j k
  refine ⟨?_, ?_, ?_⟩
  ·intro y0 y1 y2 y3
   unfold YL.f
   exact QM
  ·intro y0 y1 y2 y3 y4 y5
   unfold YL.l0
   exact QM
  ·intro y0 y1 y2 y3
   unfold YY.f
   exact QM
end Go.Proofs.YtbpbfboaofkpaaaDoor.Print
end
section
set_option linter.unusedVariables false
set_option linter.unusedSimpArgs false
namespace Go.Proofs.YtbpbfboaofkpaaaDoor.Print
open Go.RowKit Go.Shelf Go.Lib Go.Proofs.YtbpbfboaofkpaaaDoorW.PrintWords
def Suf (s : ByteArray) (l : List UInt8) : Prop := ∃ pre, s.data.toList = pre ++ l
def ps (s : ByteArray) (l : List UInt8) : Int := (s.size : Int) - (l.length : Int)
def hd : List UInt8 → Int
 | [] => 0
 | c :: _ => (c.toNat : Int)
def skip : List UInt8 → List UInt8
 | [] => []
 | c :: l => if c = 32 then skip l else c :: l
theorem Suf.tail {s : ByteArray} {c : UInt8} {l : List UInt8} (h : Suf s (c :: l)) : Suf s l := by
 obtain ⟨pre, h⟩ := h
 exact ⟨pre ++ [c], by simpa using h⟩
theorem Suf.app {s : ByteArray} {t l : List UInt8} (h : Suf s (t ++ l)) : Suf s l := by
 obtain ⟨pre, h⟩ := h
 exact ⟨pre ++ t, by simpa using h⟩
theorem Suf.skip {s : ByteArray} : ∀ {l : List UInt8}, Suf s l → Suf s (skip l)
 | [], h => h
 | c :: l, h => by
  unfold Print.skip
  by_cases e : c = 32
  ·rw [if_pos e]; exact Suf.skip h.tail
  ·rw [if_neg e]; exact h
theorem Suf.len {s : ByteArray} {l : List UInt8} (h : Suf s l) : l.length ≤ s.size := by
 obtain ⟨pre, h⟩ := h
 have := congrArg List.length h
 rw [Array.length_toList, List.length_append] at this
 have e : s.size = s.data.size := rfl
 omega
theorem Suf.whole (s : ByteArray) : Suf s s.data.toList := ⟨[], rfl⟩
theorem Y3F (s : ByteArray) : ps s s.data.toList = 0 := by
 unfold ps
 rw [Array.length_toList]
 have e : s.size = s.data.size := rfl
 omega
theorem Suf.ps0 {s : ByteArray} {l : List UInt8} (h : Suf s l) : 0 ≤ ps s l := by
 have := h.len; unfold ps; omega
theorem Y33 (s : ByteArray) : ps s [] = s.size := by simp [ps]
theorem Y2U (s : ByteArray) (c : UInt8) (l : List UInt8) : ps s (c :: l) < s.size := by simp [ps]; omega
theorem ps_le (s : ByteArray) (l : List UInt8) : ps s l ≤ s.size := by unfold ps; omega
theorem Y1m {s : ByteArray} (hs : s.size ≤ 100000000) {c : UInt8} {l : List UInt8} (h : Suf s (c :: l)) : wrap64 (ps s (c :: l) + 1) = ps s l := by
 have := h.len
 simp only [List.length_cons] at this
 unfold ps wrap64
 simp only [List.length_cons]
 omega
theorem Y4n {s : ByteArray} {c : UInt8} {l : List UInt8} (h : Suf s (c :: l)) : bt s (ps s (c :: l)) = (c.toNat : Int) := by
 obtain ⟨pre, h⟩ := h
 have hl := congrArg List.length h
 rw [Array.length_toList, List.length_append, List.length_cons] at hl
 have e : s.size = s.data.size := rfl
 have hp : (ps s (c :: l)).toNat = pre.length := by unfold ps; simp only [List.length_cons]; omega
 have hlt : (ps s (c :: l)).toNat < s.size := by omega
 unfold bt
 rw [dif_pos hlt]
 have hlt2 : (ps s (c :: l)).toNat < s.data.toList.length := by rw [Array.length_toList]; omega
 have : s[(ps s (c :: l)).toNat] = s.data.toList[(ps s (c :: l)).toNat] := rfl
 rw [this]
 simp [h, hp]
theorem Y3B (l : List UInt8) : (skip l).length ≤ l.length := by
 induction l with
 | nil => exact Nat.le_refl _
 | cons c l ih =>
  unfold skip
  split
  ·exact Nat.le_succ_of_le ih
  ·exact Nat.le_refl _
theorem Y6M {c : UInt8} {n : Nat} (h : n < 256) : ((c.toNat : Int) = (n : Int)) ↔ c = UInt8.ofNat n := by
 constructor
 ·intro e
  apply UInt8.toNat_inj.mp
  rw [UInt8.toNat_ofNat']
  omega
 ·intro e
  rw [e, UInt8.toNat_ofNat']
  omega
theorem Y1R (s : ByteArray) (hs : s.size ≤ 100000000) (o : Int) : ∀ l, Suf s l → Ev (fun k => Yj.f k s (ps s l) 0 o) (hd (skip l), s, ps s (skip l), 0, o)
 | [], h => by
  refine Ev.step (f := fun _ => _) (fun k => ?_) (Ev.now _)
  show Yj.l0 (k + 1) s (ps s []) 0 o = _
  simp only [Yj.l0, if_true]
  rw [Y33, if_neg (by omega), if_pos (by omega)]
  simp [skip, hd, Y33]
 | c :: l, h => by
  have b := Y4n h
  by_cases e : c = 32
  ·refine Ev.step (f := fun k => Yj.f k s (ps s l) 0 o) (fun k => ?_) ?_
   ·show Yj.l0 (k + 1) s (ps s (c :: l)) 0 o = Yj.l0 k s (ps s l) 0 o
    simp only [Yj.l0, if_true]
    rw [if_pos (Y2U s c l), if_pos h.ps0, b, if_pos (by rw [e]; rfl), Y1m hs h]
   ·have := Y1R s hs o l h.tail
    unfold skip; rw [if_pos e]; exact this
  ·refine Ev.step (f := fun _ => _) (fun k => ?_) (Ev.now _)
   show Yj.l0 (k + 1) s (ps s (c :: l)) 0 o = _
   simp only [Yj.l0, if_true]
   have hl := Y2U s c l
   rw [if_pos hl, if_pos h.ps0, b, if_neg (by intro e2; exact e ((Y6M (n := 32) (by omega)).mp e2)), if_neg (by omega)]
   unfold skip; rw [if_neg e]; rfl
theorem next_e (s : ByteArray) (a e o : Int) (he : e ≠ 0) : Ev (fun k => Yj.f k s a e o) (0, s, a, e, o) := by
 refine Ev.step (f := fun _ => _) (fun k => ?_) (Ev.now _)
 show Yj.l0 (k + 1) s a e o = _
 simp only [Yj.l0]
 rw [if_neg he]
theorem Y4K {s : ByteArray} (hs : s.size ≤ 100000000) (o : Int) {l : List UInt8} {c : UInt8} {r : List UInt8} (h : Suf s l) (e : skip l = c :: r) (n : Int) (hn : n = (c.toNat : Int)) :
  Ev (fun k => YS.f k s (ps s l) 0 o n) (true, s, ps s r, 0, o) := by
 have hq := h.skip
 rw [e] at hq
 have h1 := Y1R s hs o l h
 rw [e] at h1
 refine Ev.bind h1 (Ev.congr (fun k => ?_) (Ev.now _))
 show (if (c.toNat : Int) = n then _ else _) = _
 rw [if_pos hn.symm, Y1m hs hq]
theorem is_no {s : ByteArray} (hs : s.size ≤ 100000000) (o : Int) {l : List UInt8} (h : Suf s l) (n : Int) (hn : hd (skip l) ≠ n) :
  Ev (fun k => YS.f k s (ps s l) 0 o n) (false, s, ps s (skip l), 0, o) := by
 refine Ev.bind (Y1R s hs o l h) (Ev.congr (fun k => ?_) (Ev.now _))
 show (if hd (skip l) = n then _ else _) = _
 rw [if_neg hn]
theorem is_e (s : ByteArray) (a e o n : Int) (he : e ≠ 0) (hn : n ≠ 0) : Ev (fun k => YS.f k s a e o n) (false, s, a, e, o) := by
 refine Ev.bind (next_e s a e o he) (Ev.congr (fun k => ?_) (Ev.now _))
 show (if (0 : Int) = n then _ else _) = _
 rw [if_neg (fun q => hn q.symm)]
theorem Y3n (s : ByteArray) (a o b c : Int) : Ys.f s a 0 o b c = some (0, ⟨#[]⟩, [], [], s, a, c, b) := by
 unfold Ys.f; rw [if_pos rfl]
theorem fails_e (s : ByteArray) (a e o b c : Int) (he : e ≠ 0) : Ys.f s a e o b c = some (0, ⟨#[]⟩, [], [], s, a, e, o) := by
 unfold Ys.f; rw [if_neg he]
theorem Y6w {s : ByteArray} (hs : s.size ≤ 100000000) (o : Int) {l : List UInt8} {c : UInt8} {r : List UInt8} (h : Suf s l) (e : skip l = c :: r) (n : Int) (hn : n = (c.toNat : Int)) :
  Ev (fun k => YU.f k s (ps s l) 0 o n) (s, ps s r, 0, o) :=
 Ev.bind (Y4K hs o h e n hn) (Ev.congr (fun k => by simp) (Ev.now _))
theorem must_no {s : ByteArray} (hs : s.size ≤ 100000000) (o : Int) {l : List UInt8} (h : Suf s l) (n : Int) (hn : hd (skip l) ≠ n) :
  Ev (fun k => YU.f k s (ps s l) 0 o n) (s, ps s (skip l), 2, ps s (skip l)) :=
 Ev.bind (is_no hs o h n hn) (Ev.congr (fun k => by simp [Y3n]) (Ev.now _))
theorem must_e (s : ByteArray) (a e o n : Int) (he : e ≠ 0) (hn : n ≠ 0) : Ev (fun k => YU.f k s a e o n) (s, a, e, o) :=
 Ev.bind (is_e s a e o n he hn) (Ev.congr (fun k => by simp [fails_e _ _ _ _ _ _ he]) (Ev.now _))
def Y47 : List UInt8 → Option (List UInt8 × List UInt8)
 | [] => none
 | c :: l => if c = 62 then some ([], l) else (Y47 l).map fun x => (c :: x.1, x.2)
theorem Y30 : ∀ {l t r}, Y47 l = some (t, r) → l = t ++ 62 :: r ∧ ¬ (62 : UInt8) ∈ t
 | [], t, r, h => by simp [Y47] at h
 | c :: l, t, r, h => by
  unfold Y47 at h
  by_cases e : c = 62
  ·rw [if_pos e] at h
   simp only [Option.some.injEq, Prod.mk.injEq] at h
   obtain ⟨rfl, rfl⟩ := h
   simp [e]
  ·rw [if_neg e] at h
   cases hu : Y47 l with
   | none => rw [hu] at h; cases h
   | some x =>
    rw [hu] at h
    simp only [Option.map_some, Option.some.injEq, Prod.mk.injEq] at h
    obtain ⟨rfl, rfl⟩ := h
    obtain ⟨h1, h2⟩ := Y30 (t := x.1) (r := x.2) hu
    refine ⟨by rw [h1]; simp, ?_⟩
    simp only [List.mem_cons, not_or]
    exact ⟨fun q => e q.symm, h2⟩
theorem upGt_mk : ∀ (t r : List UInt8), ¬ (62 : UInt8) ∈ t → Y47 (t ++ 62 :: r) = some (t, r)
 | [], r, h => by simp [Y47]
 | c :: t, r, h => by
  simp only [List.mem_cons, not_or] at h
  simp only [List.cons_append]
  unfold Y47
  rw [if_neg (fun q => h.1 q.symm), upGt_mk t r h.2]
  rfl
theorem Y6q : ∀ l, Lib.index l [62] = (match Y47 l with | some (t, _) => (t.length : Int) | none => -1)
 | [] => by simp [Lib.index, Y47]
 | c :: l => by
  unfold Lib.index Y47
  by_cases e : c = 62
  ·subst e; simp [List.isPrefixOf]
  ·have e2 : ([62] : List UInt8).isPrefixOf (c :: l) = false := by
    simp only [List.isPrefixOf, Bool.and_true, beq_eq_false_iff_ne]; exact fun q => e q.symm
   rw [if_neg e, e2, Y6q l]
   cases Y47 l with
   | none => rfl
   | some x =>
    have : ((x.1.length : Int) == -1) = false := by rw [beq_eq_false_iff_ne]; omega
    simp [this]
theorem cut_gt (l : List UInt8) : Lib.cut l [62] = (match Y47 l with | some (t, r) => (t, r, true) | none => (l, [], false)) := by
 unfold Lib.cut
 rw [Y6q]
 cases h : Y47 l with
 | none => simp
 | some x =>
  obtain ⟨t, r⟩ := x
  obtain ⟨h1, _⟩ := Y30 h
  have : (0 : Int) ≤ (t.length : Int) := by omega
  simp only [this, if_true]
  rw [h1]
  simp
def Y3Y (l : List UInt8) : Option (ByteArray × List UInt8) :=
 match skip l with
 | [] => none
 | c :: r => if c = 60 then
   match Y47 r with
   | none => none
   | some (t, l1) => if Y38 ⟨t.toArray⟩ then some (⟨t.toArray⟩, l1) else none
  else none
theorem Y4J {l : List UInt8} {t : ByteArray} {l1 : List UInt8} (h : Y3Y l = some (t, l1)) : ∃ r, skip l = 60 :: r ∧ Y47 r = some (t.data.toList, l1) ∧ Y38 t = true := by
 unfold Y3Y at h
 cases hk : skip l with
 | nil => rw [hk] at h; cases h
 | cons c r =>
  rw [hk] at h
  simp only at h
  by_cases e : c = 60
  ·rw [if_pos e] at h
   cases hu : Y47 r with
   | none => rw [hu] at h; cases h
   | some x =>
    rw [hu] at h
    simp only at h
    by_cases hi : Y38 ⟨x.1.toArray⟩ = true
    ·rw [if_pos hi] at h
     simp only [Option.some.injEq, Prod.mk.injEq] at h
     obtain ⟨rfl, rfl⟩ := h
     exact ⟨r, by rw [e], hu, hi⟩
    ·rw [if_neg hi] at h; cases h
  ·rw [if_neg e] at h; cases h
theorem Y6o {s : ByteArray} {r : List UInt8} (h : Suf s r) : (s.extract (ps s r).toNat s.size).data.toList = r := by
 obtain ⟨pre, h⟩ := h
 have hl := congrArg List.length h
 rw [Array.length_toList, List.length_append] at hl
 have e : s.size = s.data.size := rfl
 have hp : (ps s r).toNat = pre.length := by unfold ps; omega
 rw [hp, ByteArray.data_extract, Array.toList_extract, h]
 rw [List.extract_eq_take_drop]
 simp
 apply List.take_of_length_le
 omega
theorem Y51 {a b : ByteArray} (h : a.data.toList = b.data.toList) : a = b := by
 cases a; cases b
 congr
 exact Array.toList_inj.mp h
theorem Y3s (a : ByteArray) : a.data.toList.length = a.size := by rw [Array.length_toList]; rfl
theorem Y2S {s : ByteArray} (hs : s.size ≤ 100000000) (o : Int) {l : List UInt8} {t : ByteArray} {l1 : List UInt8} (h : Suf s l) (hi : Y3Y l = some (t, l1)) :
  Ev (fun k => YR.f k s (ps s l) 0 o) (t, s, ps s l1, 0, o) ∧ Suf s l1 ∧ l1.length + 2 ≤ l.length := by
 obtain ⟨r, hk, hu, hb⟩ := Y4J hi
 have hq := h.skip
 have hle := Y3B l
 rw [hk] at hq hle
 obtain ⟨hr, hn⟩ := Y30 hu
 have hl1 : Suf s l1 := by have := hq.tail; rw [hr] at this; exact (this.app).tail
 refine ⟨?_, hl1, ?_⟩
 ·refine Ev.bind (by have := Y1R s hs o l h; rw [hk] at this; exact this) (Ev.congr (f := fun _ => _) (fun k => ?_) (Ev.now _))
  have hlen := hq.len
  have hrl := congrArg List.length hr
  rw [List.length_append, List.length_cons, Y3s] at hrl
  simp only [List.length_cons] at hlen
  have h60 : hd (60 :: r) = 60 := rfl
  show (if hd (60 :: r) = 60 then _ else _) = _
  rw [if_pos h60]
  simp only [Y1m hs hq]
  rw [if_pos hq.tail.ps0, if_pos (ps_le s r)]
  unfold strings_Cut.f
  have hx := Y6o hq.tail
  have hxs : (s.extract (ps s r).toNat s.size).size = r.length := by rw [← Y3s, hx]
  rw [if_pos (by unfold Y6t; rw [hxs]; exact decide_eq_true (by omega)), hx]
  have e62 : (⟨#[62]⟩ : ByteArray).data.toList = [62] := rfl
  rw [e62, cut_gt, hu]
  simp only [Option.bind_some, if_true]
  unfold Y19.f
  have et : (⟨t.data.toList.toArray⟩ : ByteArray) = t := Y51 (by simp)
  rw [et, if_pos Z1y, hb]
  simp only [Option.bind_some, if_true]
  have hw : wrap64 (ps s (60 :: r) + wrap64 ((t.size : Int) + 2)) = ps s l1 := by
   unfold ps wrap64
   simp only [List.length_cons]
   omega
  rw [hw]
 ·have := congrArg List.length hr
  rw [List.length_append] at this
  simp only [List.length_cons] at this hle
  omega
theorem Y4p {s : ByteArray} (hs : s.size ≤ 100000000) (o : Int) {l : List UInt8} (h : Suf s l) (hi : Y3Y l = none) :
  Ev (fun k => YR.f k s (ps s l) 0 o) (⟨#[]⟩, s, ps s (skip l), 2, ps s (skip l)) := by
 have hq := h.skip
 refine Ev.bind (Y1R s hs o l h) (Ev.congr (f := fun _ => _) (fun k => ?_) (Ev.now _))
 show (if hd (skip l) = 60 then _ else _) = _
 by_cases e : hd (skip l) = 60
 ·rw [if_pos e]
  unfold Y3Y at hi
  cases hk : skip l with
  | nil => rw [hk] at e; cases e
  | cons c r =>
   rw [hk] at hi e hq
   have ec : c = 60 := (Y6M (n := 60) (by omega)).mp e
   subst ec
   simp only [if_true] at hi
   have hlen := hq.len
   simp only [List.length_cons] at hlen
   simp only [Y1m hs hq]
   rw [if_pos hq.tail.ps0, if_pos (ps_le s r)]
   unfold strings_Cut.f
   have hx := Y6o hq.tail
   have hxs : (s.extract (ps s r).toNat s.size).size = r.length := by rw [← Y3s, hx]
   rw [if_pos (by unfold Y6t; rw [hxs]; exact decide_eq_true (by omega)), hx]
   have e62 : (⟨#[62]⟩ : ByteArray).data.toList = [62] := rfl
   rw [e62, cut_gt]
   cases hu : Y47 r with
   | none => simp [Y3n]
   | some x =>
    rw [hu] at hi
    simp only at hi
    obtain ⟨hr, _⟩ := Y30 (t := x.1) (r := x.2) hu
    have hrl := congrArg List.length hr
    rw [List.length_append, List.length_cons] at hrl
    have hb : Y38 ⟨x.1.toArray⟩ = false := by
     by_cases hb : Y38 ⟨x.1.toArray⟩ = true
     ·rw [if_pos hb] at hi; cases hi
     ·simpa using hb
    simp only [Option.bind_some, if_true]
    unfold Y19.f
    have z : (⟨x.1.toArray⟩ : ByteArray).size = x.1.length := by rw [← Y3s]
    rw [if_pos (by unfold Y4R; rw [z]; exact decide_eq_true (by omega)), hb]
    simp [Y3n]
 ·rw [if_neg e]
  simp [Y3n]
theorem Y3r (s : ByteArray) (hs : s.size ≤ 100000000) (o : Int) : ∀ l, Suf s l → Ev (fun k => Yd.f k s (ps s l) 0 o) (hd (skip l), s, ps s (skip l), 0, o)
 | [], h => by
  refine Ev.step (f := fun _ => _) (fun k => ?_) (Ev.now _)
  show Yd.l0 (k + 1) s (ps s []) 0 o = _
  simp only [Yd.l0, if_true]
  rw [Y33, if_neg (by omega), if_pos (by omega)]
  simp [skip, hd, Y33]
 | c :: l, h => by
  have b := Y4n h
  by_cases e : c = 32
  ·refine Ev.step (f := fun k => Yd.f k s (ps s l) 0 o) (fun k => ?_) ?_
   ·show Yd.l0 (k + 1) s (ps s (c :: l)) 0 o = Yd.l0 k s (ps s l) 0 o
    simp only [Yd.l0, if_true]
    rw [if_pos (Y2U s c l), if_pos h.ps0, b, if_pos (by rw [e]; rfl), Y1m hs h]
   ·have := Y3r s hs o l h.tail
    unfold skip; rw [if_pos e]; exact this
  ·refine Ev.step (f := fun _ => _) (fun k => ?_) (Ev.now _)
   show Yd.l0 (k + 1) s (ps s (c :: l)) 0 o = _
   simp only [Yd.l0, if_true]
   have hl := Y2U s c l
   rw [if_pos hl, if_pos h.ps0, b, if_neg (by intro e2; exact e ((Y6M (n := 32) (by omega)).mp e2)), if_neg (by omega)]
   unfold skip; rw [if_neg e]; rfl
theorem Y63 (s : ByteArray) (hs : s.size ≤ 100000000) (e o : Int) (he : e ≠ 0) : ∀ l, Suf s l → Ev (fun k => Yd.f k s (ps s l) e o) (0, s, ps s (skip l), e, o)
 | [], h => by
  refine Ev.step (f := fun _ => _) (fun k => ?_) (Ev.now _)
  show Yd.l0 (k + 1) s (ps s []) e o = _
  simp only [Yd.l0]
  rw [Y33, if_neg (by omega), if_neg he]
  simp [skip, Y33]
 | c :: l, h => by
  have b := Y4n h
  by_cases e2 : c = 32
  ·refine Ev.step (f := fun k => Yd.f k s (ps s l) e o) (fun k => ?_) ?_
   ·show Yd.l0 (k + 1) s (ps s (c :: l)) e o = Yd.l0 k s (ps s l) e o
    simp only [Yd.l0]
    rw [if_pos (Y2U s c l), if_pos h.ps0, b, if_pos (by rw [e2]; rfl), Y1m hs h]
   ·have := Y63 s hs e o he l h.tail
    unfold skip; rw [if_pos e2]; exact this
  ·refine Ev.step (f := fun _ => _) (fun k => ?_) (Ev.now _)
   show Yd.l0 (k + 1) s (ps s (c :: l)) e o = _
   simp only [Yd.l0]
   have hl := Y2U s c l
   rw [if_pos hl, if_pos h.ps0, b, if_neg (by intro q; exact e2 ((Y6M (n := 32) (by omega)).mp q)), if_neg he]
   unfold skip; rw [if_neg e2]
theorem Y2u {s : ByteArray} (hs : s.size ≤ 100000000) (o : Int) {l : List UInt8} {c : UInt8} {r : List UInt8} (h : Suf s l) (e : skip l = c :: r) (n : Int) (hn : n = (c.toNat : Int)) :
  Ev (fun k => Yl.f k s (ps s l) 0 o n) (true, s, ps s r, 0, o) := by
 have hq := h.skip
 rw [e] at hq
 have h1 := Y3r s hs o l h
 rw [e] at h1
 refine Ev.bind h1 (Ev.congr (fun k => ?_) (Ev.now _))
 show (if (c.toNat : Int) = n then _ else _) = _
 rw [if_pos hn.symm, Y1m hs hq]
theorem Y2Q {s : ByteArray} (hs : s.size ≤ 100000000) (o : Int) {l : List UInt8} (h : Suf s l) (n : Int) (hn : hd (skip l) ≠ n) :
  Ev (fun k => Yl.f k s (ps s l) 0 o n) (false, s, ps s (skip l), 0, o) := by
 refine Ev.bind (Y3r s hs o l h) (Ev.congr (fun k => ?_) (Ev.now _))
 show (if hd (skip l) = n then _ else _) = _
 rw [if_neg hn]
theorem Y4Q (s : ByteArray) (hs : s.size ≤ 100000000) (e o n : Int) (he : e ≠ 0) (hn : n ≠ 0) {l : List UInt8} (h : Suf s l) : Ev (fun k => Yl.f k s (ps s l) e o n) (false, s, ps s (skip l), e, o) := by
 refine Ev.bind (Y63 s hs e o he l h) (Ev.congr (fun k => ?_) (Ev.now _))
 show (if (0 : Int) = n then _ else _) = _
 rw [if_neg (fun q => hn q.symm)]
theorem Y4j (s : ByteArray) (a o b c : Int) : Yt.f s a 0 o b c = some (0, ⟨#[]⟩, [], [], s, a, c, b) := by
 unfold Yt.f; rw [if_pos rfl]
theorem fail_e (s : ByteArray) (a e o b c : Int) (he : e ≠ 0) : Yt.f s a e o b c = some (0, ⟨#[]⟩, [], [], s, a, e, o) := by
 unfold Yt.f; rw [if_neg he]
theorem Y1c : ∀ l, skip (skip l) = skip l
 | [] => rfl
 | c :: l => by
  by_cases e : c = 32
  ·have : skip (c :: l) = skip l := by conv => lhs; unfold skip; rw [if_pos e]
   rw [this]; exact Y1c l
  ·have : skip (c :: l) = c :: l := by conv => lhs; unfold skip; rw [if_neg e]
   rw [this, this]
theorem Y43 (s : ByteArray) (hs : s.size ≤ 100000000) (a e o : Int) : ∀ (r : List UInt8), Suf s r →
  (∀ t l1, Y47 r = some (t, l1) → ∀ x, Ev (fun k => Y3.j1 k (ps s (62 :: l1)) s a e o) x → Ev (fun k => Y3.l0 k (ps s r) s a e o) x) ∧
  (Y47 r = none → ∀ x, Ev (fun k => Y3.j1 k (ps s []) s a e o) x → Ev (fun k => Y3.l0 k (ps s r) s a e o) x)
 | [], h => by
  refine ⟨fun t l1 hu => by simp [Y47] at hu, fun _ x hx => ?_⟩
  refine Ev.step (fun k => ?_) hx
  simp only [Y3.l0]
  rw [if_neg (by rw [Y33]; omega)]
 | c :: r, h => by
  obtain ⟨ih1, ih2⟩ := Y43 s hs a e o r h.tail
  have b := Y4n h
  by_cases q : c = 62
  ·subst q
   refine ⟨fun t l1 hu x hx => ?_, fun hu => ?_⟩
   ·unfold Y47 at hu
    rw [if_pos rfl] at hu
    simp only [Option.some.injEq, Prod.mk.injEq] at hu
    obtain ⟨rfl, rfl⟩ := hu
    refine Ev.step (fun k => ?_) hx
    simp only [Y3.l0]
    rw [if_pos (Y2U s _ _), if_pos h.ps0, b, if_pos (show ((UInt8.toNat 62 : Nat) : Int) = 62 from rfl)]
   ·unfold Y47 at hu
    rw [if_pos rfl] at hu
    cases hu
  ·have st : ∀ k, Y3.l0 (k + 1) (ps s (c :: r)) s a e o = Y3.l0 k (ps s r) s a e o := by
    intro k
    simp only [Y3.l0]
    rw [if_pos (Y2U s _ _), if_pos h.ps0, b, if_neg (by intro w; exact q ((Y6M (n := 62) (by omega)).mp w)), Y1m hs h]
   refine ⟨fun t l1 hu x hx => ?_, fun hu x hx => ?_⟩
   ·unfold Y47 at hu
    rw [if_neg q] at hu
    cases hv : Y47 r with
    | none => rw [hv] at hu; cases hu
    | some y =>
     rw [hv] at hu
     simp only [Option.map_some, Option.some.injEq, Prod.mk.injEq] at hu
     obtain ⟨rfl, rfl⟩ := hu
     exact Ev.step st (ih1 y.1 y.2 hv x hx)
   ·unfold Y47 at hu
    rw [if_neg q] at hu
    exact Ev.step st (ih2 (by cases hv : Y47 r with | none => rfl | some y => rw [hv] at hu; cases hu) x hx)
theorem Y6p {s : ByteArray} {t l1 : List UInt8} {r : List UInt8} (h : Suf s r) (hr : r = t ++ l1) : (s.extract (ps s r).toNat (ps s l1).toNat) = ⟨t.toArray⟩ := by
 apply Y51
 obtain ⟨pre, h⟩ := h
 have hl := congrArg List.length h
 rw [Array.length_toList, List.length_append] at hl
 have e : s.size = s.data.size := rfl
 have hrl := congrArg List.length hr
 rw [List.length_append] at hrl
 have hp : (ps s r).toNat = pre.length := by unfold ps; omega
 have hp2 : (ps s l1).toNat = pre.length + t.length := by unfold ps; omega
 rw [hp, hp2, ByteArray.data_extract, Array.toList_extract, h, hr]
 rw [List.extract_eq_take_drop]
 simp
theorem ps_mono {s : ByteArray} {l m : List UInt8} (h : l.length ≤ m.length) : ps s m ≤ ps s l := by unfold ps; omega
theorem Y3A {s : ByteArray} (hs : s.size ≤ 100000000) (o : Int) {l : List UInt8} {t : ByteArray} {l1 : List UInt8} (h : Suf s l) (hi : Y3Y l = some (t, l1)) :
  Ev (fun k => Y3.f k s (ps s l) 0 o) (t, s, ps s l1, 0, o) := by
 obtain ⟨r, hk, hu, hb⟩ := Y4J hi
 have hq := h.skip
 rw [hk] at hq
 obtain ⟨hr, hn⟩ := Y30 hu
 have hr2 : Suf s (62 :: l1) := by have := hq.tail; rw [hr] at this; exact this.app
 refine Ev.bind (by have := Y3r s hs o l h; rw [hk] at this; exact this) (Ev.congr (f := fun k => Y3.l0 k (ps s r) s (ps s (60 :: r)) 0 o) (fun k => ?_) ?_)
 ·have h60 : hd (60 :: r) = 60 := rfl
  show (if hd (60 :: r) = 60 then _ else _) = _
  rw [if_pos h60, Y1m hs hq]
 ·refine (Y43 s hs _ _ _ r hq.tail).1 _ _ hu _ (Ev.step (f := fun _ => _) (fun k => ?_) (Ev.now _))
  have hlen := hq.len
  have hrl := congrArg List.length hr
  rw [List.length_append, List.length_cons, Y3s] at hrl
  simp only [List.length_cons] at hlen
  simp only [Y3.j1]
  rw [if_neg (by have := Y2U s 62 l1; omega), Y1m hs hq, if_pos hq.tail.ps0, if_pos (ps_mono Z1x), if_pos (ps_le s _)]
  rw [Y6p hq.tail hr, Y1m hs hr2]
  have et : (⟨t.data.toList.toArray⟩ : ByteArray) = t := Y51 (by simp)
  rw [et]
  unfold YV.f
  rw [if_pos Z1y, hb]
  simp
theorem Y3z {s : ByteArray} (hs : s.size ≤ 100000000) (o : Int) {l : List UInt8} (h : Suf s l) (hi : Y3Y l = none) :
  Ev (fun k => Y3.f k s (ps s l) 0 o) (⟨#[]⟩, s, ps s (skip l), 2, ps s (skip l)) := by
 have hq := h.skip
 by_cases e : hd (skip l) = 60
 ·unfold Y3Y at hi
  cases hk : skip l with
  | nil => rw [hk] at e; cases e
  | cons c r =>
   rw [hk] at hi e hq
   have ec : c = 60 := (Y6M (n := 60) (by omega)).mp e
   subst ec
   simp only [if_true] at hi
   have hlen := hq.len
   simp only [List.length_cons] at hlen
   refine Ev.bind (by have := Y3r s hs o l h; rw [hk] at this; exact this) (Ev.congr (f := fun k => Y3.l0 k (ps s r) s (ps s (60 :: r)) 0 o) (fun k => ?_) ?_)
   ·have h60 : hd (60 :: r) = 60 := rfl
    show (if hd (60 :: r) = 60 then _ else _) = _
    rw [if_pos h60, Y1m hs hq]
   ·cases hu : Y47 r with
    | none =>
     refine (Y43 s hs _ _ _ r hq.tail).2 hu _ (Ev.step (f := fun _ => _) (fun k => ?_) (Ev.now _))
     simp only [Y3.j1]
     rw [if_pos (by rw [Y33]; omega)]
     simp [Y4j]
    | some x =>
     rw [hu] at hi
     simp only at hi
     obtain ⟨hr, _⟩ := Y30 (t := x.1) (r := x.2) hu
     have hrl := congrArg List.length hr
     rw [List.length_append, List.length_cons] at hrl
     have hb : Y38 ⟨x.1.toArray⟩ = false := by
      by_cases hb : Y38 ⟨x.1.toArray⟩ = true
      ·rw [if_pos hb] at hi; cases hi
      ·simpa using hb
     refine (Y43 s hs _ _ _ r hq.tail).1 x.1 x.2 hu _ (Ev.step (f := fun _ => _) (fun k => ?_) (Ev.now _))
     simp only [Y3.j1]
     rw [if_neg (by have := Y2U s 62 x.2; omega), Y1m hs hq, if_pos hq.tail.ps0, if_pos (ps_mono Z1x), if_pos (ps_le s _)]
     rw [Y6p hq.tail hr]
     unfold YV.f
     have z : (⟨x.1.toArray⟩ : ByteArray).size = x.1.length := by rw [← Y3s]
     rw [if_pos (by unfold Y4R; rw [z]; exact decide_eq_true (by omega)), hb]
     simp [Y4j]
 ·refine Ev.bind (Y3r s hs o l h) (Ev.congr (f := fun _ => _) (fun k => ?_) (Ev.now _))
  show (if hd (skip l) = 60 then _ else _) = _
  rw [if_neg e]
  simp [Y4j]
theorem Ev.up {α : Type} {g : Nat → Option α} {r : α} (h : Ev (fun k => g (k + 1)) r) : Ev g r := Ev.step (fun _ => rfl) h
inductive Res where
 | ok (p : S37) (l : List UInt8)
 | bad (c : Int) (l : List UInt8)
inductive NT where
 | path | pathL (p : S37) | seq | seqL (p : S37) | step | stepL (p : S37) | back | nt | notL (ts : List ByteArray)
def pK (k : Int) (l : List S37) : S37 := ⟨k, ⟨#[]⟩, [], l⟩
def pIri (t : ByteArray) : S37 := ⟨1, t, [], []⟩
def pNot (l : List ByteArray) : S37 := ⟨8, ⟨#[]⟩, l, []⟩
def signK (n : Int) : Int := if n = 42 then 5 else if n = 43 then 6 else 7
inductive P : NT → Nat → List UInt8 → Res → Prop
 | path_ok {d l p l1 res} : P .seq d l (.ok p l1) → P (.pathL p) d l1 res → P .path d l res
 | path_bad {d l c lb} : P .seq d l (.bad c lb) → P .path d l (.bad c lb)
 | pathL_more {d p l r q l1 res} : skip l = 124 :: r → P .seq d r (.ok q l1) → P (.pathL (pK 4 [p, q])) d l1 res → P (.pathL p) d l res
 | pathL_bad {d p l r c lb} : skip l = 124 :: r → P .seq d r (.bad c lb) → P (.pathL p) d l (.bad c lb)
 | pathL_end {d p l} : hd (skip l) ≠ 124 → P (.pathL p) d l (.ok p (skip l))
 | seq_ok {d l p l1 res} : P .step d l (.ok p l1) → P (.seqL p) d l1 res → P .seq d l res
 | seq_bad {d l c lb} : P .step d l (.bad c lb) → P .seq d l (.bad c lb)
 | seqL_more {d p l r q l1 res} : skip l = 47 :: r → P .step d r (.ok q l1) → P (.seqL (pK 3 [p, q])) d l1 res → P (.seqL p) d l res
 | seqL_bad {d p l r c lb} : skip l = 47 :: r → P .step d r (.bad c lb) → P (.seqL p) d l (.bad c lb)
 | seqL_end {d p l} : hd (skip l) ≠ 47 → P (.seqL p) d l (.ok p (skip l))
 | step_ok {d l p l1 res} : P .back d l (.ok p l1) → P (.stepL p) d l1 res → P .step d l res
 | step_bad {d l c lb} : P .back d l (.bad c lb) → P .step d l (.bad c lb)
 | stepL_more {d p l c r res} : skip l = c :: r → (c = 42 ∨ c = 43 ∨ c = 63) → P (.stepL (pK (signK c.toNat) [p])) d r res → P (.stepL p) d l res
 | stepL_end {d p l} : hd (skip l) ≠ 42 → hd (skip l) ≠ 43 → hd (skip l) ≠ 63 → P (.stepL p) d l (.ok p (skip l))
 | up_ok {d l r p l1} : skip l = 94 :: r → d < 5 → P .back (d + 1) r (.ok p l1) → P .back d l (.ok (pK 2 [p]) l1)
 | up_bad {d l r c lb} : skip l = 94 :: r → d < 5 → P .back (d + 1) r (.bad c lb) → P .back d l (.bad c lb)
 | full {d l c r} : skip l = c :: r → (c = 94 ∨ c = 40) → 5 ≤ d → P .back d l (.bad 3 (skip l))
 | iri_ok {d l r t l1} : skip l = 60 :: r → Y3Y l = some (t, l1) → P .back d l (.ok (pIri t) l1)
 | iri_bad {d l r} : skip l = 60 :: r → Y3Y l = none → P .back d l (.bad 2 (skip l))
 | not_ {d l r res} : skip l = 33 :: r → P .nt d r res → P .back d l res
 | br_ok {d l r p l1 r1} : skip l = 40 :: r → d < 5 → P .path (d + 1) r (.ok p l1) → skip l1 = 41 :: r1 → P .back d l (.ok p r1)
 | br_bad {d l r c lb} : skip l = 40 :: r → d < 5 → P .path (d + 1) r (.bad c lb) → P .back d l (.bad c lb)
 | br_open {d l r p l1} : skip l = 40 :: r → d < 5 → P .path (d + 1) r (.ok p l1) → hd (skip l1) ≠ 41 → P .back d l (.bad 2 (skip l1))
 | other {d l} : hd (skip l) ≠ 94 → hd (skip l) ≠ 60 → hd (skip l) ≠ 33 → hd (skip l) ≠ 40 → P .back d l (.bad 2 (skip l))
 | nt_one {d l t l1} : hd l ≠ 40 → Y3Y l = some (t, l1) → P .nt d l (.ok (pNot [t]) l1)
 | nt_one_bad {d l} : hd l ≠ 40 → Y3Y l = none → P .nt d l (.bad 2 (skip l))
 | nt_br {d r t l1 res} : Y3Y r = some (t, l1) → P (.notL [t]) d l1 res → P .nt d (40 :: r) res
 | nt_br_bad {d r} : Y3Y r = none → P .nt d (40 :: r) (.bad 2 (skip r))
 | notL_more {d ts l r t l1 res} : skip l = 124 :: r → Y3Y r = some (t, l1) → P (.notL (ts ++ [t])) d l1 res → P (.notL ts) d l res
 | notL_bad {d ts l r} : skip l = 124 :: r → Y3Y r = none → P (.notL ts) d l (.bad 2 (skip r))
 | notL_end {d ts l r} : skip l = 41 :: r → P (.notL ts) d l (.ok (pNot ts) r)
 | notL_open {d ts l} : hd (skip l) ≠ 124 → hd (skip l) ≠ 41 → P (.notL ts) d l (.bad 2 (skip l))
abbrev R8 := Int × ByteArray × List ByteArray × List S37 × ByteArray × Int × Int × Int
def RI (s : ByteArray) (o : Int) : Res → R8 → Prop
 | .ok p l, r => Suf s l ∧ r = (p.f0, p.f1, p.f2, p.f3, s, ps s l, 0, o)
 | .bad c l, r => c ≠ 0 ∧ Suf s l ∧ ∃ l' q0 q1 q2 q3, Suf s l' ∧ r = (q0, q1, q2, q3, s, ps s l', c, ps s l)
def fI (s : ByteArray) (o : Int) : NT → Nat → List UInt8 → Nat → Option R8
 | .path, d, l => fun k => Yq.f k s (ps s l) 0 o (d : Int)
 | .pathL p, d, l => fun k => Yq.l0 k (d : Int) s (ps s l) 0 o p.f0 p.f1 p.f2 p.f3
 | .seq, d, l => fun k => Yz.f k s (ps s l) 0 o (d : Int)
 | .seqL p, d, l => fun k => Yz.l0 k (d : Int) s (ps s l) 0 o p.f0 p.f1 p.f2 p.f3
 | .step, d, l => fun k => Yf.f k s (ps s l) 0 o (d : Int)
 | .stepL p, d, l => fun k => Yf.l0 k s (ps s l) 0 o p.f0 p.f1 p.f2 p.f3
 | .back, d, l => fun k => YG.f k s (ps s l) 0 o (d : Int)
 | .nt, d, l => fun k => Yi.f k s (ps s l) 0 o
 | .notL ts, d, l => fun k => Yi.l0 k s (ps s l) 0 o 8 ts
def fits (s : ByteArray) : NT → List UInt8 → Prop
 | .notL ts, l => ts.length + l.length ≤ s.size
 | _, _ => True
theorem Y3N {d : Nat} (h : d < 5) : wrap64 ((d : Int) + 1) = ((d + 1 : Nat) : Int) := by unfold wrap64; omega
theorem Y1G {s : ByteArray} {o : Int} {c : Int} {l : List UInt8} (hc : c ≠ 0) (h : Suf s l) {l' : List UInt8} (h' : Suf s l') (q0 : Int) (q1 : ByteArray) (q2 : List ByteArray) (q3 : List S37) :
  RI s o (.bad c l) (q0, q1, q2, q3, s, ps s l', c, ps s l) := ⟨hc, h, l', q0, q1, q2, q3, h', rfl⟩
theorem pathL_e (s : ByteArray) (d a e o : Int) (he : e ≠ 0) (q0 : Int) (q1 : ByteArray) (q2 : List ByteArray) (q3 : List S37) :
  Ev (fun k => Yq.l0 k d s a e o q0 q1 q2 q3) (q0, q1, q2, q3, s, a, e, o) := by
 refine Ev.up ?_
 simp only [Yq.l0]
 exact Z1U
theorem seqL_e (s : ByteArray) (d a e o : Int) (he : e ≠ 0) (q0 : Int) (q1 : ByteArray) (q2 : List ByteArray) (q3 : List S37) :
  Ev (fun k => Yz.l0 k d s a e o q0 q1 q2 q3) (q0, q1, q2, q3, s, a, e, o) := by
 refine Ev.up ?_
 simp only [Yz.l0]
 exact Z1U
theorem stepL_e (s : ByteArray) (a e o : Int) (he : e ≠ 0) (q0 : Int) (q1 : ByteArray) (q2 : List ByteArray) (q3 : List S37) :
  Ev (fun k => Yf.l0 k s a e o q0 q1 q2 q3) (q0, q1, q2, q3, s, a, e, o) := by
 refine Ev.up ?_
 simp only [Yf.l0]
 exact Ev.bind (next_e s a e o he) (Ev.congr (fun k => by simp) (Ev.now _))
theorem notL_e (s : ByteArray) (a e o : Int) (he : e ≠ 0) (q0 : Int) (ts : List ByteArray) :
  Ev (fun k => Yi.l0 k s a e o q0 ts) (q0, ⟨#[]⟩, ts, [], s, a, e, o) := by
 refine Ev.up ?_
 simp only [Yi.l0]
 refine Ev.bind (is_e s a e o _ he (by decide)) ?_
 simp only [Bool.false_eq_true, if_false]
 exact Ev.bind (must_e s a e o _ he (by decide)) (Ev.congr (fun k => by simp) (Ev.now _))
set_option maxHeartbeats 4000000 in
theorem impl (s : ByteArray) (hs : s.size ≤ 100000000) (o : Int) {m d l res} (h : P m d l res) : Suf s l → d ≤ 5 → fits s m l → ∃ r, Ev (fI s o m d l) r ∧ RI s o res r := by
 induction h with
 | path_ok _ _ ih1 ih2 =>
  intro hl hd _
  obtain ⟨r, h1, hl1, rfl⟩ := ih1 hl hd trivial
  obtain ⟨r2, h2, hr⟩ := ih2 hl1 hd trivial
  refine ⟨r2, Ev.up ?_, hr⟩
  simp only [fI, Yq.f]
  exact Z1F
 | path_bad _ ih1 =>
  intro hl hd _
  obtain ⟨r, h1, hc, hl1, l', q0, q1, q2, q3, hl', rfl⟩ := ih1 hl hd trivial
  refine ⟨_, Ev.up ?_, Y1G hc hl1 hl' q0 q1 q2 q3⟩
  simp only [fI, Yq.f]
  exact Ev.bind h1 (pathL_e s _ _ _ _ hc _ _ _ _)
 | @pathL_more d p l r0 q l1 res hk _ _ ih1 ih2 =>
  intro hl hd _
  cases p; cases q
  have hq := hl.skip; rw [hk] at hq
  obtain ⟨r, h1, hl1, rfl⟩ := ih1 hq.tail hd trivial
  obtain ⟨r2, h2, hr⟩ := ih2 hl1 hd trivial
  refine ⟨r2, Ev.up ?_, hr⟩
  simp only [fI, Yq.l0]
  refine Ev.bind (Y4K hs o hl hk 124 rfl) ?_
  simp only [if_true]
  exact Z1F
 | @pathL_bad d p l r0 c lb hk _ ih1 =>
  intro hl hd _
  cases p with | mk p0 p1 p2 p3 =>
  have hq := hl.skip; rw [hk] at hq
  obtain ⟨r, h1, hc, hl1, l', q0, q1, q2, q3, hl', rfl⟩ := ih1 hq.tail hd trivial
  refine ⟨_, Ev.up ?_, Y1G hc hl1 hl' 4 ⟨#[]⟩ [] [⟨p0, p1, p2, p3⟩, ⟨q0, q1, q2, q3⟩]⟩
  simp only [fI, Yq.l0]
  refine Ev.bind (Y4K hs o hl hk 124 rfl) ?_
  simp only [if_true]
  exact Ev.bind h1 (pathL_e s _ _ _ _ hc _ _ _ _)
 | pathL_end hk =>
  intro hl hd _
  refine ⟨_, Ev.up ?_, hl.skip, rfl⟩
  simp only [fI, Yq.l0]
  exact Ev.bind (is_no hs o hl 124 hk) (Ev.congr (fun k => by simp) (Ev.now _))
 | seq_ok _ _ ih1 ih2 =>
  intro hl hd _
  obtain ⟨r, h1, hl1, rfl⟩ := ih1 hl hd trivial
  obtain ⟨r2, h2, hr⟩ := ih2 hl1 hd trivial
  refine ⟨r2, Ev.up ?_, hr⟩
  simp only [fI, Yz.f]
  exact Z1F
 | seq_bad _ ih1 =>
  intro hl hd _
  obtain ⟨r, h1, hc, hl1, l', q0, q1, q2, q3, hl', rfl⟩ := ih1 hl hd trivial
  refine ⟨_, Ev.up ?_, Y1G hc hl1 hl' q0 q1 q2 q3⟩
  simp only [fI, Yz.f]
  exact Ev.bind h1 (seqL_e s _ _ _ _ hc _ _ _ _)
 | @seqL_more d p l r0 q l1 res hk _ _ ih1 ih2 =>
  intro hl hd _
  cases p; cases q
  have hq := hl.skip; rw [hk] at hq
  obtain ⟨r, h1, hl1, rfl⟩ := ih1 hq.tail hd trivial
  obtain ⟨r2, h2, hr⟩ := ih2 hl1 hd trivial
  refine ⟨r2, Ev.up ?_, hr⟩
  simp only [fI, Yz.l0]
  refine Ev.bind (Y4K hs o hl hk 47 rfl) ?_
  simp only [if_true]
  exact Z1F
 | @seqL_bad d p l r0 c lb hk _ ih1 =>
  intro hl hd _
  cases p with | mk p0 p1 p2 p3 =>
  have hq := hl.skip; rw [hk] at hq
  obtain ⟨r, h1, hc, hl1, l', q0, q1, q2, q3, hl', rfl⟩ := ih1 hq.tail hd trivial
  refine ⟨_, Ev.up ?_, Y1G hc hl1 hl' 3 ⟨#[]⟩ [] [⟨p0, p1, p2, p3⟩, ⟨q0, q1, q2, q3⟩]⟩
  simp only [fI, Yz.l0]
  refine Ev.bind (Y4K hs o hl hk 47 rfl) ?_
  simp only [if_true]
  exact Ev.bind h1 (seqL_e s _ _ _ _ hc _ _ _ _)
 | seqL_end hk =>
  intro hl hd _
  refine ⟨_, Ev.up ?_, hl.skip, rfl⟩
  simp only [fI, Yz.l0]
  exact Ev.bind (is_no hs o hl 47 hk) (Ev.congr (fun k => by simp) (Ev.now _))
 | step_ok _ _ ih1 ih2 =>
  intro hl hd _
  obtain ⟨r, h1, hl1, rfl⟩ := ih1 hl hd trivial
  obtain ⟨r2, h2, hr⟩ := ih2 hl1 hd trivial
  refine ⟨r2, Ev.up ?_, hr⟩
  simp only [fI, Yf.f]
  exact Z1F
 | step_bad _ ih1 =>
  intro hl hd _
  obtain ⟨r, h1, hc, hl1, l', q0, q1, q2, q3, hl', rfl⟩ := ih1 hl hd trivial
  refine ⟨_, Ev.up ?_, Y1G hc hl1 hl' q0 q1 q2 q3⟩
  simp only [fI, Yf.f]
  exact Ev.bind h1 (stepL_e s _ _ _ hc _ _ _ _)
 | @stepL_more d p l c r0 res hk hc _ ih1 =>
  intro hl hd _
  have hq := hl.skip; rw [hk] at hq
  obtain ⟨r, h1, hr⟩ := ih1 hq.tail hd trivial
  refine ⟨r, Ev.up ?_, hr⟩
  simp only [fI, Yf.l0]
  have hn := Y1R s hs o l hl
  rw [hk] at hn
  refine Ev.bind hn ?_
  have e0 : wrap64 (ps s (c :: r0) + 1) = ps s r0 := Y1m hs hq
  cases p
  rcases hc with rfl | rfl | rfl
  ·have e1 : Print.hd (42 :: r0) = 42 := rfl
   simp only [e1, if_true]
   refine Ev.up ?_
   simp only [Yf.j1, e0]
   exact h1
  ·have e1 : Print.hd (43 :: r0) = 43 := rfl
   have e2 : ¬ ((43 : Int) = 42) := by decide
   simp only [e1, e2, if_true, if_false]
   refine Ev.up ?_
   simp only [Yf.j2, e0]
   exact h1
  ·have e1 : Print.hd (63 :: r0) = 63 := rfl
   have e2 : ¬ ((63 : Int) = 42) := by decide
   have e3 : ¬ ((63 : Int) = 43) := by decide
   simp only [e1, e2, e3, if_true, if_false]
   refine Ev.up ?_
   simp only [Yf.j3, e0]
   exact h1
 | stepL_end hk1 hk2 hk3 =>
  intro hl hd _
  refine ⟨_, Ev.up ?_, hl.skip, rfl⟩
  simp only [fI, Yf.l0]
  refine Ev.bind (Y1R s hs o _ hl) ?_
  simp only [hk1, hk2, hk3, if_false]
  exact Z1b
 | @up_ok d l r0 p l1 hk hd5 _ ih1 =>
  intro hl hd _
  cases p
  have hq := hl.skip; rw [hk] at hq
  obtain ⟨r, h1, hl1, rfl⟩ := ih1 hq.tail (by omega) trivial
  refine ⟨_, Ev.up ?_, hl1, rfl⟩
  simp only [fI, YG.f]
  have hn := Y1R s hs o _ hl
  rw [hk] at hn
  refine Ev.bind hn ?_
  simp only [show Print.hd (94 :: r0) = 94 from rfl, if_true, Y1m hs hq, Y3N hd5, if_neg (show ¬ ((d : Nat) : Int) ≥ 5 by omega)]
  exact Z1o
 | @up_bad d l r0 c lb hk hd5 _ ih1 =>
  intro hl hd _
  have hq := hl.skip; rw [hk] at hq
  obtain ⟨r, h1, hc, hl1, l', q0, q1, q2, q3, hl', rfl⟩ := ih1 hq.tail (by omega) trivial
  refine ⟨_, Ev.up ?_, Y1G hc hl1 hl' 2 ⟨#[]⟩ [] [⟨q0, q1, q2, q3⟩]⟩
  simp only [fI, YG.f]
  have hn := Y1R s hs o _ hl
  rw [hk] at hn
  refine Ev.bind hn ?_
  simp only [show Print.hd (94 :: r0) = 94 from rfl, if_true, Y1m hs hq, Y3N hd5, if_neg (show ¬ ((d : Nat) : Int) ≥ 5 by omega)]
  exact Z1o
 | @full d l c r0 hk hc h5 =>
  intro hl hd _
  refine ⟨_, ?_, Y1G (l' := skip l) (by decide) hl.skip hl.skip 0 ⟨#[]⟩ [] []⟩
  have hn := Y1R s hs o _ hl
  have hge : ((d : Nat) : Int) ≥ 5 := by omega
  refine Ev.up ?_
  simp only [fI, YG.f]
  refine Ev.bind hn ?_
  rw [hk]
  rcases hc with rfl | rfl
  ·simp only [show Print.hd (94 :: r0) = 94 from rfl, if_true, if_pos hge, Y3n]
   exact Z1b
  ·simp only [show Print.hd (40 :: r0) = 40 from rfl, if_neg (show ¬ ((40 : Int) = 94) by decide)]
   refine Ev.bind (a := (0, ⟨#[]⟩, [], [], s, ps s (40 :: r0), 3, ps s (40 :: r0))) (Ev.up ?_) (Ev.now _)
   simp only [YN.f]
   have hq := hl.skip; rw [hk] at hq
   have hn2 := Y1R s hs o _ hq
   refine Ev.bind hn2 ?_
   have e4 : skip (40 :: r0) = 40 :: r0 := rfl
   rw [e4]
   simp only [show Print.hd (40 :: r0) = 40 from rfl, if_neg (show ¬ ((40 : Int) = 60) by decide), if_neg (show ¬ ((40 : Int) = 33) by decide), if_true, if_pos hge, Y3n]
   exact Z1b
 | @iri_ok d l r0 t l1 hk hi =>
  intro hl hd _
  have hq := hl.skip; rw [hk] at hq
  obtain ⟨h1, hl1, _⟩ := Y2S hs o hl hi
  refine ⟨_, Ev.up ?_, hl1, rfl⟩
  simp only [fI, YG.f]
  have hn := Y1R s hs o _ hl
  rw [hk] at hn
  refine Ev.bind hn ?_
  simp only [show Print.hd (60 :: r0) = 60 from rfl, if_neg (show ¬ ((60 : Int) = 94) by decide)]
  refine Ev.bind (a := (1, t, [], [], s, ps s l1, 0, o)) (Ev.up ?_) (Ev.now _)
  simp only [YN.f]
  have hn2 := Y1R s hs o _ hq
  refine Ev.bind hn2 ?_
  have e4 : skip (60 :: r0) = 60 :: r0 := rfl
  rw [e4]
  simp only [show Print.hd (60 :: r0) = 60 from rfl, if_true]
  have hi2 : Y3Y (60 :: r0) = some (t, l1) := by unfold Y3Y at hi ⊢; rw [hk] at hi; rw [e4]; exact hi
  exact Ev.bind (Y2S hs o hq hi2).1 (Ev.now _)
 | @iri_bad d l r0 hk hi =>
  intro hl hd _
  have hq := hl.skip; rw [hk] at hq
  refine ⟨_, Ev.up ?_, Y1G (l' := skip l) (by decide) hl.skip hl.skip 1 ⟨#[]⟩ [] []⟩
  simp only [fI, YG.f]
  have hn := Y1R s hs o _ hl
  refine Ev.bind hn ?_
  rw [hk]
  simp only [show Print.hd (60 :: r0) = 60 from rfl, if_neg (show ¬ ((60 : Int) = 94) by decide)]
  refine Ev.bind (a := (1, ⟨#[]⟩, [], [], s, ps s (60 :: r0), 2, ps s (60 :: r0))) (Ev.up ?_) (Ev.now _)
  simp only [YN.f]
  have hn2 := Y1R s hs o _ hq
  refine Ev.bind hn2 ?_
  have e4 : skip (60 :: r0) = 60 :: r0 := rfl
  rw [e4]
  simp only [show Print.hd (60 :: r0) = 60 from rfl, if_true]
  have hi2 : Y3Y (60 :: r0) = none := by unfold Y3Y at hi ⊢; rw [hk] at hi; rw [e4]; exact hi
  have := Y4p hs o hq hi2
  rw [e4] at this
  exact Ev.bind this (Ev.now _)
 | @not_ d l r0 res hk _ ih1 =>
  intro hl hd _
  have hq := hl.skip; rw [hk] at hq
  obtain ⟨r, h1, hr⟩ := ih1 hq.tail hd trivial
  refine ⟨r, Ev.up ?_, hr⟩
  simp only [fI, YG.f]
  have hn := Y1R s hs o _ hl
  rw [hk] at hn
  refine Ev.bind hn ?_
  simp only [show Print.hd (33 :: r0) = 33 from rfl, if_neg (show ¬ ((33 : Int) = 94) by decide)]
  refine Ev.bind (a := r) (Ev.up ?_) (Ev.now _)
  simp only [YN.f]
  have hn2 := Y1R s hs o _ hq
  refine Ev.bind hn2 ?_
  have e4 : skip (33 :: r0) = 33 :: r0 := rfl
  rw [e4]
  simp only [show Print.hd (33 :: r0) = 33 from rfl, if_neg (show ¬ ((33 : Int) = 60) by decide), if_true, Y1m hs hq]
  exact Z1o
 | @br_ok d l r0 p l1 r1 hk hd5 _ hk2 ih1 =>
  intro hl hd _
  have hq := hl.skip; rw [hk] at hq
  obtain ⟨r, h1, hl1, rfl⟩ := ih1 hq.tail (by omega) trivial
  have hq1 := hl1.skip; rw [hk2] at hq1
  refine ⟨_, Ev.up ?_, hq1.tail, rfl⟩
  simp only [fI, YG.f]
  have hn := Y1R s hs o _ hl
  rw [hk] at hn
  refine Ev.bind hn ?_
  simp only [show Print.hd (40 :: r0) = 40 from rfl, if_neg (show ¬ ((40 : Int) = 94) by decide)]
  refine Ev.bind (a := (p.f0, p.f1, p.f2, p.f3, s, ps s r1, 0, o)) (Ev.up ?_) (Ev.now _)
  simp only [YN.f]
  have hn2 := Y1R s hs o _ hq
  refine Ev.bind hn2 ?_
  have e4 : skip (40 :: r0) = 40 :: r0 := rfl
  rw [e4]
  simp only [show Print.hd (40 :: r0) = 40 from rfl, if_neg (show ¬ ((40 : Int) = 60) by decide), if_neg (show ¬ ((40 : Int) = 33) by decide), if_true, Y1m hs hq, Y3N hd5, if_neg (show ¬ ((d : Nat) : Int) ≥ 5 by omega)]
  refine Ev.bind h1 ?_
  exact Ev.bind (Y6w hs o hl1 hk2 41 rfl) (Ev.now _)
 | @br_bad d l r0 c lb hk hd5 _ ih1 =>
  intro hl hd _
  have hq := hl.skip; rw [hk] at hq
  obtain ⟨r, h1, hc, hl1, l', q0, q1, q2, q3, hl', rfl⟩ := ih1 hq.tail (by omega) trivial
  refine ⟨_, Ev.up ?_, Y1G hc hl1 hl' q0 q1 q2 q3⟩
  simp only [fI, YG.f]
  have hn := Y1R s hs o _ hl
  rw [hk] at hn
  refine Ev.bind hn ?_
  simp only [show Print.hd (40 :: r0) = 40 from rfl, if_neg (show ¬ ((40 : Int) = 94) by decide)]
  refine Ev.bind (a := (q0, q1, q2, q3, s, ps s l', c, ps s lb)) (Ev.up ?_) (Ev.now _)
  simp only [YN.f]
  have hn2 := Y1R s hs o _ hq
  refine Ev.bind hn2 ?_
  have e4 : skip (40 :: r0) = 40 :: r0 := rfl
  rw [e4]
  simp only [show Print.hd (40 :: r0) = 40 from rfl, if_neg (show ¬ ((40 : Int) = 60) by decide), if_neg (show ¬ ((40 : Int) = 33) by decide), if_true, Y1m hs hq, Y3N hd5, if_neg (show ¬ ((d : Nat) : Int) ≥ 5 by omega)]
  refine Ev.bind h1 ?_
  exact Ev.bind (must_e s _ _ _ 41 hc (by decide)) (Ev.now _)
 | @br_open d l r0 p l1 hk hd5 _ hk2 ih1 =>
  intro hl hd _
  have hq := hl.skip; rw [hk] at hq
  obtain ⟨r, h1, hl1, rfl⟩ := ih1 hq.tail (by omega) trivial
  refine ⟨_, Ev.up ?_, Y1G (l' := skip l1) (by decide) hl1.skip hl1.skip p.f0 p.f1 p.f2 p.f3⟩
  simp only [fI, YG.f]
  have hn := Y1R s hs o _ hl
  rw [hk] at hn
  refine Ev.bind hn ?_
  simp only [show Print.hd (40 :: r0) = 40 from rfl, if_neg (show ¬ ((40 : Int) = 94) by decide)]
  refine Ev.bind (a := (p.f0, p.f1, p.f2, p.f3, s, ps s (skip l1), 2, ps s (skip l1))) (Ev.up ?_) (Ev.now _)
  simp only [YN.f]
  have hn2 := Y1R s hs o _ hq
  refine Ev.bind hn2 ?_
  have e4 : skip (40 :: r0) = 40 :: r0 := rfl
  rw [e4]
  simp only [show Print.hd (40 :: r0) = 40 from rfl, if_neg (show ¬ ((40 : Int) = 60) by decide), if_neg (show ¬ ((40 : Int) = 33) by decide), if_true, Y1m hs hq, Y3N hd5, if_neg (show ¬ ((d : Nat) : Int) ≥ 5 by omega)]
  refine Ev.bind h1 ?_
  exact Ev.bind (must_no hs o hl1 41 hk2) (Ev.now _)
 | @other d l k1 k2 k3 k4 =>
  intro hl hd _
  refine ⟨_, Ev.up ?_, Y1G (l' := skip l) (by decide) hl.skip hl.skip 0 ⟨#[]⟩ [] []⟩
  simp only [fI, YG.f]
  refine Ev.bind (Y1R s hs o _ hl) ?_
  simp only [if_neg k1]
  refine Ev.bind (a := (0, ⟨#[]⟩, [], [], s, ps s (skip l), 2, ps s (skip l))) (Ev.up ?_) (Ev.now _)
  simp only [YN.f]
  refine Ev.bind (Y1R s hs o _ hl.skip) ?_
  rw [Y1c]
  simp only [if_neg k2, if_neg k3, if_neg k4, Y3n]
  exact Z1b
 | @nt_one d l t l1 hk hi =>
  intro hl hd _
  obtain ⟨h1, hl1, _⟩ := Y2S hs o hl hi
  refine ⟨_, ?_, hl1, rfl⟩
  simp only [fI, Yi.f]
  have hj : Ev (fun k => Yi.j0 k true s (ps s l) 0 o 8) (8, ⟨#[]⟩, [t], [], s, ps s l1, 0, o) := by
   refine Ev.up ?_
   simp only [Yi.j0, if_true]
   exact Z1o
  cases l with
  | nil => simp only [if_pos (show ps s [] ≥ (s.size : Int) by rw [Y33]; omega)]; exact hj
  | cons c r =>
   have hb : (bt s (ps s (c :: r)) != 40) = true := by rw [Y4n hl]; exact bne_iff_ne.mpr hk
   simp only [if_neg (show ¬ ps s (c :: r) ≥ (s.size : Int) by have := Y2U s c r; omega), if_pos hl.ps0, if_pos (Y2U s c r), hb]
   exact hj
 | @nt_one_bad d l hk hi =>
  intro hl hd _
  have h1 := Y4p hs o hl hi
  refine ⟨_, ?_, Y1G (l' := skip l) (by decide) hl.skip hl.skip 8 ⟨#[]⟩ [⟨#[]⟩] []⟩
  simp only [fI, Yi.f]
  have hj : Ev (fun k => Yi.j0 k true s (ps s l) 0 o 8) (8, ⟨#[]⟩, [⟨#[]⟩], [], s, ps s (skip l), 2, ps s (skip l)) := by
   refine Ev.up ?_
   simp only [Yi.j0, if_true]
   exact Z1o
  cases l with
  | nil => simp only [if_pos (show ps s [] ≥ (s.size : Int) by rw [Y33]; omega)]; exact hj
  | cons c r =>
   have hb : (bt s (ps s (c :: r)) != 40) = true := by rw [Y4n hl]; exact bne_iff_ne.mpr hk
   simp only [if_neg (show ¬ ps s (c :: r) ≥ (s.size : Int) by have := Y2U s c r; omega), if_pos hl.ps0, if_pos (Y2U s c r), hb]
   exact hj
 | @nt_br d r0 t l1 res hi _ ih1 =>
  intro hl hd _
  obtain ⟨h1, hl1, hle⟩ := Y2S hs o hl.tail hi
  have hlen := hl.len
  simp only [List.length_cons] at hlen
  obtain ⟨r, h2, hr⟩ := ih1 hl1 hd (by simp only [fits, List.length_cons, List.length_nil]; omega)
  refine ⟨r, ?_, hr⟩
  have hb : (bt s (ps s (40 :: r0)) != 40) = false := by rw [Y4n hl]; rfl
  simp only [fI, Yi.f, if_neg (show ¬ ps s (40 :: r0) ≥ (s.size : Int) by have := Y2U s 40 r0; omega), if_pos hl.ps0, if_pos (Y2U s 40 r0), hb]
  refine Ev.up ?_
  simp only [Yi.j0, Bool.false_eq_true, if_false, Y1m hs hl]
  exact Z1F
 | @nt_br_bad d r0 hi =>
  intro hl hd _
  have h1 := Y4p hs o hl.tail hi
  refine ⟨_, ?_, Y1G (l' := skip r0) (by decide) hl.tail.skip hl.tail.skip 8 ⟨#[]⟩ [⟨#[]⟩] []⟩
  have hb : (bt s (ps s (40 :: r0)) != 40) = false := by rw [Y4n hl]; rfl
  simp only [fI, Yi.f, if_neg (show ¬ ps s (40 :: r0) ≥ (s.size : Int) by have := Y2U s 40 r0; omega), if_pos hl.ps0, if_pos (Y2U s 40 r0), hb]
  refine Ev.up ?_
  simp only [Yi.j0, Bool.false_eq_true, if_false, Y1m hs hl]
  exact Ev.bind h1 (notL_e s _ 2 _ (by decide) _ _)
 | @notL_more d ts l r0 t l1 res hk hi _ ih1 =>
  intro hl hd hf
  have hq := hl.skip; rw [hk] at hq
  have hle0 := Y3B l
  rw [hk] at hle0
  obtain ⟨h1, hl1, hle⟩ := Y2S hs o hq.tail hi
  simp only [fits, List.length_cons] at hf hle0
  obtain ⟨r, h2, hr⟩ := ih1 hl1 hd Z1P
  refine ⟨r, Ev.up ?_, hr⟩
  simp only [fI, Yi.l0]
  refine Ev.bind (Y4K hs o hl hk 124 rfl) ?_
  simp only [if_true]
  refine Ev.bind h1 ?_
  simp only [if_pos (show ts.length < 8796093022208 by omega)]
  exact h2
 | @notL_bad d ts l r0 hk hi =>
  intro hl hd hf
  have hq := hl.skip; rw [hk] at hq
  simp only [fits] at hf
  refine ⟨_, Ev.up ?_, Y1G (l' := skip r0) (by decide) hq.tail.skip hq.tail.skip 8 ⟨#[]⟩ (ts ++ [⟨#[]⟩]) []⟩
  simp only [fI, Yi.l0]
  refine Ev.bind (Y4K hs o hl hk 124 rfl) ?_
  simp only [if_true]
  refine Ev.bind (Y4p hs o hq.tail hi) ?_
  simp only [if_pos (show ts.length < 8796093022208 by omega)]
  exact notL_e s _ 2 _ (by decide) _ _
 | @notL_end d ts l r0 hk =>
  intro hl hd hf
  have hq := hl.skip; rw [hk] at hq
  refine ⟨_, Ev.up ?_, hq.tail, rfl⟩
  simp only [fI, Yi.l0]
  refine Ev.bind (is_no hs o hl 124 (by rw [hk]; show (41 : Int) ≠ 124; decide)) ?_
  simp only [Bool.false_eq_true, if_false]
  exact Ev.bind (Y6w hs o hl.skip (by rw [Y1c]; exact hk) 41 rfl) (Ev.now _)
 | @notL_open d ts l k1 k2 =>
  intro hl hd hf
  refine ⟨_, Ev.up ?_, Y1G (l' := skip l) (by decide) hl.skip hl.skip 8 ⟨#[]⟩ ts []⟩
  simp only [fI, Yi.l0]
  refine Ev.bind (is_no hs o hl 124 k1) ?_
  simp only [Bool.false_eq_true, if_false]
  refine Ev.bind (must_no hs o hl.skip 41 (by rw [Y1c]; exact k2)) ?_
  rw [Y1c]
  exact Z1b
def fR (s : ByteArray) (o : Int) : NT → Nat → List UInt8 → Nat → Option R8
 | .path, d, l => fun k => Yh.f k s (ps s l) 0 o (d : Int)
 | .pathL p, d, l => fun k => Yh.l0 k (d : Int) s (ps s l) 0 o p.f0 p.f1 p.f2 p.f3
 | .seq, d, l => fun k => Yp.f k s (ps s l) 0 o (d : Int)
 | .seqL p, d, l => fun k => Yp.l0 k (d : Int) s (ps s l) 0 o p.f0 p.f1 p.f2 p.f3
 | .step, d, l => fun k => Y9.f k s (ps s l) 0 o (d : Int)
 | .stepL p, d, l => fun k => Y9.l0 k s (ps s l) 0 o p.f0 p.f1 p.f2 p.f3
 | .back, d, l => fun k => Yc.f k s (ps s l) 0 o (d : Int)
 | .nt, d, l => fun k => Y4.f k s (ps s l) 0 o
 | .notL ts, d, l => fun k => Y4.l0 k s (ps s l) 0 o 8 ts
theorem Y6y {s : ByteArray} (hs : s.size ≤ 100000000) (d e o : Int) (he : e ≠ 0) {l : List UInt8} (h : Suf s l) (q0 : Int) (q1 : ByteArray) (q2 : List ByteArray) (q3 : List S37) :
  Ev (fun k => Yh.l0 k d s (ps s l) e o q0 q1 q2 q3) (q0, q1, q2, q3, s, ps s (skip l), e, o) := by
 refine Ev.up ?_
 simp only [Yh.l0]
 exact Z1S
theorem rseqL_e {s : ByteArray} (hs : s.size ≤ 100000000) (d e o : Int) (he : e ≠ 0) {l : List UInt8} (h : Suf s l) (q0 : Int) (q1 : ByteArray) (q2 : List ByteArray) (q3 : List S37) :
  Ev (fun k => Yp.l0 k d s (ps s l) e o q0 q1 q2 q3) (q0, q1, q2, q3, s, ps s (skip l), e, o) := by
 refine Ev.up ?_
 simp only [Yp.l0]
 exact Z1S
theorem rstepL_e {s : ByteArray} (hs : s.size ≤ 100000000) (e o : Int) (he : e ≠ 0) {l : List UInt8} (h : Suf s l) (q0 : Int) (q1 : ByteArray) (q2 : List ByteArray) (q3 : List S37) :
  Ev (fun k => Y9.l0 k s (ps s l) e o q0 q1 q2 q3) (q0, q1, q2, q3, s, ps s (skip l), e, o) := by
 refine Ev.up ?_
 simp only [Y9.l0]
 refine Ev.bind (Y4Q s hs e o _ he (by decide) h) ?_
 simp only [Bool.false_eq_true, if_false]
 refine Ev.bind (Y4Q s hs e o _ he (by decide) h.skip) ?_
 simp only [Bool.false_eq_true, if_false, Y1c]
 refine Ev.bind (Y4Q s hs e o _ he (by decide) h.skip) ?_
 simp only [Bool.false_eq_true, if_false, Y1c]
 exact Z1b
theorem rnotL_e {s : ByteArray} (hs : s.size ≤ 100000000) (e o : Int) (he : e ≠ 0) {l : List UInt8} (h : Suf s l) (q0 : Int) (ts : List ByteArray) :
  Ev (fun k => Y4.l0 k s (ps s l) e o q0 ts) (0, ⟨#[]⟩, [], [], s, ps s (skip l), e, o) := by
 refine Ev.up ?_
 simp only [Y4.l0]
 refine Ev.bind (Y4Q s hs e o _ he (by decide) h) ?_
 simp only [Bool.false_eq_true, if_false]
 refine Ev.bind (Y4Q s hs e o _ he (by decide) h.skip) ?_
 simp only [Bool.false_eq_true, if_false, Y1c, fail_e _ _ _ _ _ _ he]
 exact Z1b
set_option maxHeartbeats 4000000 in
theorem refn (s : ByteArray) (hs : s.size ≤ 100000000) (o : Int) {m d l res} (h : P m d l res) : Suf s l → d ≤ 5 → fits s m l → ∃ r, Ev (fR s o m d l) r ∧ RI s o res r := by
 induction h with
 | path_ok _ _ ih1 ih2 =>
  intro hl hd _
  obtain ⟨r, h1, hl1, rfl⟩ := ih1 hl hd trivial
  obtain ⟨r2, h2, hr⟩ := ih2 hl1 hd trivial
  refine ⟨r2, Ev.up ?_, hr⟩
  simp only [fR, Yh.f]
  exact Z1F
 | path_bad _ ih1 =>
  intro hl hd _
  obtain ⟨r, h1, hc, hl1, l', q0, q1, q2, q3, hl', rfl⟩ := ih1 hl hd trivial
  refine ⟨_, Ev.up ?_, Y1G hc hl1 hl'.skip q0 q1 q2 q3⟩
  simp only [fR, Yh.f]
  exact Ev.bind h1 (Y6y hs _ _ _ hc hl' _ _ _ _)
 | @pathL_more d p l r0 q l1 res hk _ _ ih1 ih2 =>
  intro hl hd _
  cases p; cases q
  have hq := hl.skip; rw [hk] at hq
  obtain ⟨r, h1, hl1, rfl⟩ := ih1 hq.tail hd trivial
  obtain ⟨r2, h2, hr⟩ := ih2 hl1 hd trivial
  refine ⟨r2, Ev.up ?_, hr⟩
  simp only [fR, Yh.l0]
  refine Ev.bind (Y2u hs o hl hk 124 rfl) ?_
  simp only [if_true]
  exact Z1F
 | @pathL_bad d p l r0 c lb hk _ ih1 =>
  intro hl hd _
  cases p with | mk p0 p1 p2 p3 =>
  have hq := hl.skip; rw [hk] at hq
  obtain ⟨r, h1, hc, hl1, l', q0, q1, q2, q3, hl', rfl⟩ := ih1 hq.tail hd trivial
  refine ⟨_, Ev.up ?_, Y1G hc hl1 hl'.skip 4 ⟨#[]⟩ [] [⟨p0, p1, p2, p3⟩, ⟨q0, q1, q2, q3⟩]⟩
  simp only [fR, Yh.l0]
  refine Ev.bind (Y2u hs o hl hk 124 rfl) ?_
  simp only [if_true]
  exact Ev.bind h1 (Y6y hs _ _ _ hc hl' _ _ _ _)
 | pathL_end hk =>
  intro hl hd _
  refine ⟨_, Ev.up ?_, hl.skip, rfl⟩
  simp only [fR, Yh.l0]
  exact Ev.bind (Y2Q hs o hl 124 hk) (Ev.congr (fun k => by simp) (Ev.now _))
 | seq_ok _ _ ih1 ih2 =>
  intro hl hd _
  obtain ⟨r, h1, hl1, rfl⟩ := ih1 hl hd trivial
  obtain ⟨r2, h2, hr⟩ := ih2 hl1 hd trivial
  refine ⟨r2, Ev.up ?_, hr⟩
  simp only [fR, Yp.f]
  exact Z1F
 | seq_bad _ ih1 =>
  intro hl hd _
  obtain ⟨r, h1, hc, hl1, l', q0, q1, q2, q3, hl', rfl⟩ := ih1 hl hd trivial
  refine ⟨_, Ev.up ?_, Y1G hc hl1 hl'.skip q0 q1 q2 q3⟩
  simp only [fR, Yp.f]
  exact Ev.bind h1 (rseqL_e hs _ _ _ hc hl' _ _ _ _)
 | @seqL_more d p l r0 q l1 res hk _ _ ih1 ih2 =>
  intro hl hd _
  cases p; cases q
  have hq := hl.skip; rw [hk] at hq
  obtain ⟨r, h1, hl1, rfl⟩ := ih1 hq.tail hd trivial
  obtain ⟨r2, h2, hr⟩ := ih2 hl1 hd trivial
  refine ⟨r2, Ev.up ?_, hr⟩
  simp only [fR, Yp.l0]
  refine Ev.bind (Y2u hs o hl hk 47 rfl) ?_
  simp only [if_true]
  exact Z1F
 | @seqL_bad d p l r0 c lb hk _ ih1 =>
  intro hl hd _
  cases p with | mk p0 p1 p2 p3 =>
  have hq := hl.skip; rw [hk] at hq
  obtain ⟨r, h1, hc, hl1, l', q0, q1, q2, q3, hl', rfl⟩ := ih1 hq.tail hd trivial
  refine ⟨_, Ev.up ?_, Y1G hc hl1 hl'.skip 3 ⟨#[]⟩ [] [⟨p0, p1, p2, p3⟩, ⟨q0, q1, q2, q3⟩]⟩
  simp only [fR, Yp.l0]
  refine Ev.bind (Y2u hs o hl hk 47 rfl) ?_
  simp only [if_true]
  exact Ev.bind h1 (rseqL_e hs _ _ _ hc hl' _ _ _ _)
 | seqL_end hk =>
  intro hl hd _
  refine ⟨_, Ev.up ?_, hl.skip, rfl⟩
  simp only [fR, Yp.l0]
  exact Ev.bind (Y2Q hs o hl 47 hk) (Ev.congr (fun k => by simp) (Ev.now _))
 | step_ok _ _ ih1 ih2 =>
  intro hl hd _
  obtain ⟨r, h1, hl1, rfl⟩ := ih1 hl hd trivial
  obtain ⟨r2, h2, hr⟩ := ih2 hl1 hd trivial
  refine ⟨r2, Ev.up ?_, hr⟩
  simp only [fR, Y9.f]
  exact Z1F
 | step_bad _ ih1 =>
  intro hl hd _
  obtain ⟨r, h1, hc, hl1, l', q0, q1, q2, q3, hl', rfl⟩ := ih1 hl hd trivial
  refine ⟨_, Ev.up ?_, Y1G hc hl1 hl'.skip q0 q1 q2 q3⟩
  simp only [fR, Y9.f]
  exact Ev.bind h1 (rstepL_e hs _ _ hc hl' _ _ _ _)
 | @stepL_more d p l c r0 res hk hc _ ih1 =>
  intro hl hd _
  have hq := hl.skip; rw [hk] at hq
  obtain ⟨r, h1, hr⟩ := ih1 hq.tail hd trivial
  refine ⟨r, Ev.up ?_, hr⟩
  simp only [fR, Y9.l0]
  cases p
  have hk2 : skip (skip l) = c :: r0 := by rw [Y1c]; exact hk
  have hk3 : skip (c :: r0) = c :: r0 := by rw [← hk, Y1c]
  rcases hc with rfl | rfl | rfl
  ·refine Ev.bind (Y2u hs o hl hk 42 rfl) ?_
   simp only [if_true]
   exact h1
  ·refine Ev.bind (Y2Q hs o hl 42 (by rw [hk]; show (43 : Int) ≠ 42; decide)) ?_
   simp only [Bool.false_eq_true, if_false]
   refine Ev.bind (Y2u hs o hl.skip hk2 43 rfl) ?_
   simp only [if_true]
   exact h1
  ·refine Ev.bind (Y2Q hs o hl 42 (by rw [hk]; show (63 : Int) ≠ 42; decide)) ?_
   simp only [Bool.false_eq_true, if_false]
   refine Ev.bind (Y2Q hs o hl.skip 43 (by rw [hk2]; show (63 : Int) ≠ 43; decide)) ?_
   simp only [Bool.false_eq_true, if_false, Y1c]
   refine Ev.bind (Y2u hs o hl.skip hk2 63 rfl) ?_
   simp only [if_true]
   exact h1
 | stepL_end hk1 hk2 hk3 =>
  intro hl hd _
  refine ⟨_, Ev.up ?_, hl.skip, rfl⟩
  simp only [fR, Y9.l0]
  refine Ev.bind (Y2Q hs o hl 42 hk1) ?_
  simp only [Bool.false_eq_true, if_false]
  refine Ev.bind (Y2Q hs o hl.skip 43 (by rw [Y1c]; exact hk2)) ?_
  simp only [Bool.false_eq_true, if_false, Y1c]
  refine Ev.bind (Y2Q hs o hl.skip 63 (by rw [Y1c]; exact hk3)) ?_
  simp only [Bool.false_eq_true, if_false, Y1c]
  exact Z1b
 | @up_ok d l r0 p l1 hk hd5 _ ih1 =>
  intro hl hd _
  cases p
  have hq := hl.skip; rw [hk] at hq
  obtain ⟨r, h1, hl1, rfl⟩ := ih1 hq.tail (by omega) trivial
  refine ⟨_, Ev.up ?_, hl1, rfl⟩
  simp only [fR, Yc.f]
  have hn := Y3r s hs o _ hl
  rw [hk] at hn
  refine Ev.bind hn ?_
  simp only [show Print.hd (94 :: r0) = 94 from rfl, if_true]
  refine Ev.up ?_
  simp only [Yc.j0, show ((94 : Int) == 94) = true from rfl, if_true, Y1m hs hq, Y3N hd5, if_neg (show ¬ ((d : Nat) : Int) ≥ 5 by omega)]
  exact Z1o
 | @up_bad d l r0 c lb hk hd5 _ ih1 =>
  intro hl hd _
  have hq := hl.skip; rw [hk] at hq
  obtain ⟨r, h1, hc, hl1, l', q0, q1, q2, q3, hl', rfl⟩ := ih1 hq.tail (by omega) trivial
  refine ⟨_, Ev.up ?_, Y1G hc hl1 hl' 2 ⟨#[]⟩ [] [⟨q0, q1, q2, q3⟩]⟩
  simp only [fR, Yc.f]
  have hn := Y3r s hs o _ hl
  rw [hk] at hn
  refine Ev.bind hn ?_
  simp only [show Print.hd (94 :: r0) = 94 from rfl, if_true]
  refine Ev.up ?_
  simp only [Yc.j0, show ((94 : Int) == 94) = true from rfl, if_true, Y1m hs hq, Y3N hd5, if_neg (show ¬ ((d : Nat) : Int) ≥ 5 by omega)]
  exact Z1o
 | @full d l c r0 hk hc h5 =>
  intro hl hd _
  refine ⟨_, ?_, Y1G (l' := skip l) (by decide) hl.skip hl.skip 0 ⟨#[]⟩ [] []⟩
  have hn := Y3r s hs o _ hl
  have hge : ((d : Nat) : Int) ≥ 5 := by omega
  refine Ev.up ?_
  simp only [fR, Yc.f]
  refine Ev.bind hn ?_
  rw [hk]
  rcases hc with rfl | rfl
  ·simp only [show Print.hd (94 :: r0) = 94 from rfl, if_true]
   refine Ev.up ?_
   simp only [Yc.j0, show ((94 : Int) == 94) = true from rfl, if_true, if_pos hge, Y4j]
   exact Z1b
  ·simp only [show Print.hd (40 :: r0) = 40 from rfl, if_neg (show ¬ ((40 : Int) = 94) by decide)]
   refine Ev.up ?_
   simp only [Yc.j0, show ((40 : Int) == 40) = true from rfl, if_true, if_pos hge, Y4j]
   exact Z1b
 | @iri_ok d l r0 t l1 hk hi =>
  intro hl hd _
  have hq := hl.skip; rw [hk] at hq
  have h1 := Y3A hs o hl hi
  obtain ⟨_, hl1, _⟩ := Y2S hs o hl hi
  refine ⟨_, Ev.up ?_, hl1, rfl⟩
  simp only [fR, Yc.f]
  have hn := Y3r s hs o _ hl
  rw [hk] at hn
  refine Ev.bind hn ?_
  simp only [show Print.hd (60 :: r0) = 60 from rfl, if_neg (show ¬ ((60 : Int) = 94) by decide)]
  refine Ev.up ?_
  simp only [Yc.j0, show ((60 : Int) == 40) = false from rfl, Bool.false_eq_true, if_false, if_neg (show ¬ ((60 : Int) = 33) by decide)]
  have e4 : skip (60 :: r0) = 60 :: r0 := rfl
  have hi2 : Y3Y (60 :: r0) = some (t, l1) := by unfold Y3Y at hi ⊢; rw [hk] at hi; rw [e4]; exact hi
  exact Ev.bind (Y3A hs o hq hi2) (Ev.now _)
 | @iri_bad d l r0 hk hi =>
  intro hl hd _
  have hq := hl.skip; rw [hk] at hq
  refine ⟨_, Ev.up ?_, Y1G (l' := skip l) (by decide) hl.skip hl.skip 1 ⟨#[]⟩ [] []⟩
  simp only [fR, Yc.f]
  have hn := Y3r s hs o _ hl
  refine Ev.bind hn ?_
  rw [hk]
  simp only [show Print.hd (60 :: r0) = 60 from rfl, if_neg (show ¬ ((60 : Int) = 94) by decide)]
  refine Ev.up ?_
  simp only [Yc.j0, show ((60 : Int) == 40) = false from rfl, Bool.false_eq_true, if_false, if_neg (show ¬ ((60 : Int) = 33) by decide)]
  have e4 : skip (60 :: r0) = 60 :: r0 := rfl
  have hi2 : Y3Y (60 :: r0) = none := by unfold Y3Y at hi ⊢; rw [hk] at hi; rw [e4]; exact hi
  have := Y3z hs o hq hi2
  rw [e4] at this
  exact Ev.bind this (Ev.now _)
 | @not_ d l r0 res hk _ ih1 =>
  intro hl hd _
  have hq := hl.skip; rw [hk] at hq
  obtain ⟨r, h1, hr⟩ := ih1 hq.tail hd trivial
  refine ⟨r, Ev.up ?_, hr⟩
  simp only [fR, Yc.f]
  have hn := Y3r s hs o _ hl
  rw [hk] at hn
  refine Ev.bind hn ?_
  simp only [show Print.hd (33 :: r0) = 33 from rfl, if_neg (show ¬ ((33 : Int) = 94) by decide)]
  refine Ev.up ?_
  simp only [Yc.j0, show ((33 : Int) == 40) = false from rfl, Bool.false_eq_true, if_false, if_true, Y1m hs hq]
  exact Z1o
 | @br_ok d l r0 p l1 r1 hk hd5 _ hk2 ih1 =>
  intro hl hd _
  have hq := hl.skip; rw [hk] at hq
  obtain ⟨r, h1, hl1, rfl⟩ := ih1 hq.tail (by omega) trivial
  have hq1 := hl1.skip; rw [hk2] at hq1
  refine ⟨_, Ev.up ?_, hq1.tail, rfl⟩
  simp only [fR, Yc.f]
  have hn := Y3r s hs o _ hl
  rw [hk] at hn
  refine Ev.bind hn ?_
  simp only [show Print.hd (40 :: r0) = 40 from rfl, if_neg (show ¬ ((40 : Int) = 94) by decide)]
  refine Ev.up ?_
  simp only [Yc.j0, show ((40 : Int) == 40) = true from rfl, if_true, Y1m hs hq, Y3N hd5, if_neg (show ¬ ((d : Nat) : Int) ≥ 5 by omega), if_neg (show ¬ ((40 : Int) = 94) by decide)]
  refine Ev.bind h1 ?_
  refine Ev.bind (Y2u hs o hl1 hk2 41 rfl) ?_
  simp only [if_true]
  exact Z1b
 | @br_bad d l r0 c lb hk hd5 _ ih1 =>
  intro hl hd _
  have hq := hl.skip; rw [hk] at hq
  obtain ⟨r, h1, hc, hl1, l', q0, q1, q2, q3, hl', rfl⟩ := ih1 hq.tail (by omega) trivial
  refine ⟨_, Ev.up ?_, Y1G hc hl1 hl'.skip 0 ⟨#[]⟩ [] []⟩
  simp only [fR, Yc.f]
  have hn := Y3r s hs o _ hl
  rw [hk] at hn
  refine Ev.bind hn ?_
  simp only [show Print.hd (40 :: r0) = 40 from rfl, if_neg (show ¬ ((40 : Int) = 94) by decide)]
  refine Ev.up ?_
  simp only [Yc.j0, show ((40 : Int) == 40) = true from rfl, if_true, Y1m hs hq, Y3N hd5, if_neg (show ¬ ((d : Nat) : Int) ≥ 5 by omega), if_neg (show ¬ ((40 : Int) = 94) by decide)]
  refine Ev.bind h1 ?_
  refine Ev.bind (Y4Q s hs _ _ 41 hc (by decide) hl') ?_
  simp only [Bool.false_eq_true, if_false, fail_e _ _ _ _ _ _ hc]
  exact Z1b
 | @br_open d l r0 p l1 hk hd5 _ hk2 ih1 =>
  intro hl hd _
  have hq := hl.skip; rw [hk] at hq
  obtain ⟨r, h1, hl1, rfl⟩ := ih1 hq.tail (by omega) trivial
  refine ⟨_, Ev.up ?_, Y1G (l' := skip l1) (by decide) hl1.skip hl1.skip 0 ⟨#[]⟩ [] []⟩
  simp only [fR, Yc.f]
  have hn := Y3r s hs o _ hl
  rw [hk] at hn
  refine Ev.bind hn ?_
  simp only [show Print.hd (40 :: r0) = 40 from rfl, if_neg (show ¬ ((40 : Int) = 94) by decide)]
  refine Ev.up ?_
  simp only [Yc.j0, show ((40 : Int) == 40) = true from rfl, if_true, Y1m hs hq, Y3N hd5, if_neg (show ¬ ((d : Nat) : Int) ≥ 5 by omega), if_neg (show ¬ ((40 : Int) = 94) by decide)]
  refine Ev.bind h1 ?_
  refine Ev.bind (Y2Q hs o hl1 41 hk2) ?_
  simp only [Bool.false_eq_true, if_false, Y4j]
  exact Z1b
 | @other d l k1 k2 k3 k4 =>
  intro hl hd _
  refine ⟨_, Ev.up ?_, Y1G (l' := skip l) (by decide) hl.skip hl.skip 1 ⟨#[]⟩ [] []⟩
  simp only [fR, Yc.f]
  refine Ev.bind (Y3r s hs o _ hl) ?_
  simp only [if_neg k1]
  refine Ev.up ?_
  have hn : Y3Y (skip l) = none := by
   unfold Y3Y
   rw [Y1c]
   cases e : skip l with
   | nil => rfl
   | cons c r =>
    have : ¬ c = 60 := by rintro rfl; rw [e] at k2; exact k2 rfl
    simp only [if_neg this]
  have b : (Print.hd (skip l) == 40) = false := beq_eq_false_iff_ne.mpr k4
  simp only [Yc.j0, b, Bool.false_eq_true, if_false, if_neg k3]
  refine Ev.bind (Y3z hs o hl.skip hn) ?_
  simp only [Y1c]
  exact Z1b
 | @nt_one d l t l1 hk hi =>
  intro hl hd _
  have h1 := Y3A hs o hl hi
  obtain ⟨_, hl1, _⟩ := Y2S hs o hl hi
  refine ⟨_, ?_, hl1, rfl⟩
  simp only [fR, Y4.f]
  have hj : Ev (fun k => Y4.j0 k false s (ps s l) 0 o 8) (8, ⟨#[]⟩, [t], [], s, ps s l1, 0, o) := by
   refine Ev.up ?_
   simp only [Y4.j0, Bool.false_eq_true, if_false]
   exact Z1o
  cases l with
  | nil => simp only [if_neg (show ¬ ps s [] < (s.size : Int) by rw [Y33]; omega)]; exact hj
  | cons c r =>
   have hb : (bt s (ps s (c :: r)) == 40) = false := by rw [Y4n hl]; exact beq_eq_false_iff_ne.mpr hk
   simp only [if_pos (Y2U s c r), if_pos hl.ps0, hb]
   exact hj
 | @nt_one_bad d l hk hi =>
  intro hl hd _
  have h1 := Y3z hs o hl hi
  refine ⟨_, ?_, Y1G (l' := skip l) (by decide) hl.skip hl.skip 8 ⟨#[]⟩ [⟨#[]⟩] []⟩
  simp only [fR, Y4.f]
  have hj : Ev (fun k => Y4.j0 k false s (ps s l) 0 o 8) (8, ⟨#[]⟩, [⟨#[]⟩], [], s, ps s (skip l), 2, ps s (skip l)) := by
   refine Ev.up ?_
   simp only [Y4.j0, Bool.false_eq_true, if_false]
   exact Z1o
  cases l with
  | nil => simp only [if_neg (show ¬ ps s [] < (s.size : Int) by rw [Y33]; omega)]; exact hj
  | cons c r =>
   have hb : (bt s (ps s (c :: r)) == 40) = false := by rw [Y4n hl]; exact beq_eq_false_iff_ne.mpr hk
   simp only [if_pos (Y2U s c r), if_pos hl.ps0, hb]
   exact hj
 | @nt_br d r0 t l1 res hi _ ih1 =>
  intro hl hd _
  have h1 := Y3A hs o hl.tail hi
  obtain ⟨_, hl1, hle⟩ := Y2S hs o hl.tail hi
  have hlen := hl.len
  simp only [List.length_cons] at hlen
  obtain ⟨r, h2, hr⟩ := ih1 hl1 hd (by simp only [fits, List.length_cons, List.length_nil]; omega)
  refine ⟨r, ?_, hr⟩
  have hb : (bt s (ps s (40 :: r0)) == 40) = true := by rw [Y4n hl]; rfl
  simp only [fR, Y4.f, if_pos (Y2U s 40 r0), if_pos hl.ps0, hb]
  refine Ev.up ?_
  simp only [Y4.j0, if_true, Y1m hs hl]
  exact Z1F
 | @nt_br_bad d r0 hi =>
  intro hl hd _
  have h1 := Y3z hs o hl.tail hi
  refine ⟨_, ?_, Y1G (l' := skip (skip r0)) (by decide) hl.tail.skip hl.tail.skip.skip 0 ⟨#[]⟩ [] []⟩
  have hb : (bt s (ps s (40 :: r0)) == 40) = true := by rw [Y4n hl]; rfl
  simp only [fR, Y4.f, if_pos (Y2U s 40 r0), if_pos hl.ps0, hb]
  refine Ev.up ?_
  simp only [Y4.j0, if_true, Y1m hs hl]
  exact Ev.bind h1 (rnotL_e hs 2 _ (by decide) hl.tail.skip _ _)
 | @notL_more d ts l r0 t l1 res hk hi _ ih1 =>
  intro hl hd hf
  have hq := hl.skip; rw [hk] at hq
  have hle0 := Y3B l
  rw [hk] at hle0
  have h1 := Y3A hs o hq.tail hi
  obtain ⟨_, hl1, hle⟩ := Y2S hs o hq.tail hi
  simp only [fits, List.length_cons] at hf hle0
  obtain ⟨r, h2, hr⟩ := ih1 hl1 hd Z1P
  refine ⟨r, Ev.up ?_, hr⟩
  simp only [fR, Y4.l0]
  refine Ev.bind (Y2u hs o hl hk 124 rfl) ?_
  simp only [if_true]
  refine Ev.bind h1 ?_
  simp only [if_pos (show ts.length < 8796093022208 by omega)]
  exact h2
 | @notL_bad d ts l r0 hk hi =>
  intro hl hd hf
  have hq := hl.skip; rw [hk] at hq
  simp only [fits] at hf
  refine ⟨_, Ev.up ?_, Y1G (l' := skip (skip r0)) (by decide) hq.tail.skip hq.tail.skip.skip 0 ⟨#[]⟩ [] []⟩
  simp only [fR, Y4.l0]
  refine Ev.bind (Y2u hs o hl hk 124 rfl) ?_
  simp only [if_true]
  refine Ev.bind (Y3z hs o hq.tail hi) ?_
  simp only [if_pos (show ts.length < 8796093022208 by omega)]
  exact rnotL_e hs 2 _ (by decide) hq.tail.skip _ _
 | @notL_end d ts l r0 hk =>
  intro hl hd hf
  have hq := hl.skip; rw [hk] at hq
  refine ⟨_, Ev.up ?_, hq.tail, rfl⟩
  simp only [fR, Y4.l0]
  refine Ev.bind (Y2Q hs o hl 124 (by rw [hk]; show (41 : Int) ≠ 124; decide)) ?_
  simp only [Bool.false_eq_true, if_false]
  refine Ev.bind (Y2u hs o hl.skip (by rw [Y1c]; exact hk) 41 rfl) ?_
  simp only [if_true]
  exact Z1b
 | @notL_open d ts l k1 k2 =>
  intro hl hd hf
  refine ⟨_, Ev.up ?_, Y1G (l' := skip l) (by decide) hl.skip hl.skip 0 ⟨#[]⟩ [] []⟩
  simp only [fR, Y4.l0]
  refine Ev.bind (Y2Q hs o hl 124 k1) ?_
  simp only [Bool.false_eq_true, if_false]
  refine Ev.bind (Y2Q hs o hl.skip 41 (by rw [Y1c]; exact k2)) ?_
  simp only [Bool.false_eq_true, if_false, Y1c, Y4j]
  exact Z1b
theorem Y4f {l : List UInt8} {t : ByteArray} {l1 : List UInt8} (hi : Y3Y l = some (t, l1)) : l1.length + 2 ≤ l.length := by
 obtain ⟨r, hk, hu, _⟩ := Y4J hi
 have hle := Y3B l
 obtain ⟨hr, _⟩ := Y30 hu
 have := congrArg List.length hr
 rw [hk] at hle
 rw [List.length_append] at this
 simp only [List.length_cons] at this hle
 omega
theorem Y2a {l : List UInt8} {c : UInt8} {r : List UInt8} (h : skip l = c :: r) : r.length + 1 ≤ l.length := by
 have := Y3B l
 rw [h] at this
 simpa using this
def Le (l : List UInt8) : Res → Prop
 | .ok _ l1 => l1.length ≤ l.length
 | .bad _ _ => True
theorem Le.up {l l' : List UInt8} {res : Res} (h : Le l' res) (hl : l'.length ≤ l.length) : Le l res := by
 cases res
 ·exact Nat.le_trans h hl
 ·trivial
theorem P.le {m d l res} (h : P m d l res) : Le l res := by
 induction h with
 | path_ok _ _ ih1 ih2 => exact ih2.up ih1
 | seq_ok _ _ ih1 ih2 => exact ih2.up ih1
 | step_ok _ _ ih1 ih2 => exact ih2.up ih1
 | pathL_more hk _ _ ih1 ih2 => exact ih2.up (Nat.le_trans ih1 Z1c)
 | seqL_more hk _ _ ih1 ih2 => exact ih2.up (Nat.le_trans ih1 Z1c)
 | stepL_more hk _ _ ih1 => exact ih1.up Z1c
 | not_ hk _ ih1 => exact ih1.up Z1c
 | nt_br hi _ ih1 => exact ih1.up (by have := Y4f hi; simp only [List.length_cons]; omega)
 | notL_more hk hi _ ih1 => exact ih1.up (by have := Y4f hi; have := Y2a hk; omega)
 | up_ok hk _ _ ih1 => exact Nat.le_trans ih1 Z1c
 | br_ok hk _ _ hk2 ih1 => exact Nat.le_trans (by have := Y2a hk2; omega) (Nat.le_trans ih1 Z1c)
 | pathL_end _ => exact Y3B _
 | seqL_end _ => exact Y3B _
 | stepL_end _ _ _ => exact Y3B _
 | iri_ok _ hi => have := Y4f hi; show _ ≤ _; omega
 | nt_one _ hi => have := Y4f hi; show _ ≤ _; omega
 | notL_end hk => have := Y2a hk; show _ ≤ _; omega
 | _ => trivial
inductive Ans where
 | ok (p : S37)
 | bad (c at_ : Int)
def Ans.is (s : ByteArray) : Ans → Int × ByteArray × List ByteArray × List S37 × Int × Int → Prop
 | .ok p, r => r = (p.f0, p.f1, p.f2, p.f3, (s.size : Int), 0)
 | .bad c a, r => r = (0, ⟨#[]⟩, [], [], a, c)
inductive Whole (s : ByteArray) : Ans → Prop
 | long : s.size > 600 → Whole s (.bad 4 0)
 | ok {p l} : s.size ≤ 600 → P .path 0 s.data.toList (.ok p l) → skip l = [] → Whole s (.ok p)
 | bad {c lb} : s.size ≤ 600 → P .path 0 s.data.toList (.bad c lb) → Whole s (.bad c (ps s lb))
 | rest {p l} : s.size ≤ 600 → P .path 0 s.data.toList (.ok p l) → skip l ≠ [] → Whole s (.bad 2 (ps s (skip l)))
theorem path_i (s : ByteArray) {a : Ans} (h : Whole s a) : ∃ r, Ev (fun k => YJ.f k s) r ∧ a.is s r := by
 cases h with
 | long h =>
  refine ⟨_, ?_, rfl⟩
  unfold YJ.f
  simp only [if_pos (show (s.size : Int) > 600 by omega)]
  exact Z1b
 | @ok p l hs hp h2 =>
  obtain ⟨r, h1, hl, rfl⟩ := impl s (by omega) 0 hp (Suf.whole s) (by omega) trivial
  refine ⟨_, ?_, rfl⟩
  simp only [fI, Y3F] at h1
  unfold YJ.f
  simp only [if_neg (show ¬ (s.size : Int) > 600 by omega)]
  refine Ev.bind h1 ?_
  have hn := Y1R s (by omega) 0 l hl
  rw [h2] at hn
  refine Ev.bind hn ?_
  simp only [hd, if_true]
  refine Ev.up ?_
  simp only [YJ.j0, Y33, decide_eq_false (show ¬ (s.size : Int) < s.size by omega), Bool.false_eq_true, if_false, if_true]
  exact Z1b
 | @bad c lb hs hp =>
  obtain ⟨r, h1, hc, hl, l', q0, q1, q2, q3, hl', rfl⟩ := impl s (by omega) 0 hp (Suf.whole s) (by omega) trivial
  refine ⟨_, ?_, rfl⟩
  simp only [fI, Y3F] at h1
  unfold YJ.f
  simp only [if_neg (show ¬ (s.size : Int) > 600 by omega)]
  refine Ev.bind h1 ?_
  refine Ev.bind (next_e s _ _ _ hc) ?_
  simp only [if_true, if_neg hc]
  refine Ev.up ?_
  simp only [YJ.j0, Bool.false_eq_true, if_false, if_neg hc]
  exact Z1b
 | @rest p l hs hp h2 =>
  obtain ⟨r, h1, hl, rfl⟩ := impl s (by omega) 0 hp (Suf.whole s) (by omega) trivial
  refine ⟨_, ?_, rfl⟩
  simp only [fI, Y3F] at h1
  unfold YJ.f
  simp only [if_neg (show ¬ (s.size : Int) > 600 by omega)]
  refine Ev.bind h1 ?_
  refine Ev.bind (Y1R s (by omega) 0 l hl) ?_
  have h20 : (2 : Int) ≠ 0 := by decide
  cases e : skip l with
  | nil => exact absurd e h2
  | cons c r =>
   by_cases hc : hd (c :: r) = 0
   ·simp only [hc, if_true]
    refine Ev.up ?_
    simp only [YJ.j0, decide_eq_true (Y2U s c r), if_true, Y3n, Option.bind_some, if_neg h20]
    exact Z1b
   ·simp only [if_neg hc]
    refine Ev.up ?_
    simp only [YJ.j0, if_true, Y3n, Option.bind_some, if_neg h20]
    exact Z1b
theorem path_r (s : ByteArray) {a : Ans} (h : Whole s a) : ∃ r, Ev (fun k => YC.f k s) r ∧ a.is s r := by
 cases h with
 | long h =>
  refine ⟨_, ?_, rfl⟩
  unfold YC.f
  simp only [if_pos (show (s.size : Int) > 600 by omega)]
  exact Z1b
 | @ok p l hs hp h2 =>
  obtain ⟨r, h1, hl, rfl⟩ := refn s (by omega) 0 hp (Suf.whole s) (by omega) trivial
  refine ⟨_, ?_, rfl⟩
  simp only [fR, Y3F] at h1
  unfold YC.f
  simp only [if_neg (show ¬ (s.size : Int) > 600 by omega)]
  refine Ev.bind h1 ?_
  have hn := Y3r s (by omega) 0 l hl
  rw [h2] at hn
  refine Ev.bind hn ?_
  simp only [hd, if_true]
  refine Ev.up ?_
  simp only [YC.j0, Y33, decide_eq_false (show ¬ (s.size : Int) < s.size by omega), Bool.false_eq_true, if_false, if_true]
  exact Z1b
 | @bad c lb hs hp =>
  obtain ⟨r, h1, hc, hl, l', q0, q1, q2, q3, hl', rfl⟩ := refn s (by omega) 0 hp (Suf.whole s) (by omega) trivial
  refine ⟨_, ?_, rfl⟩
  simp only [fR, Y3F] at h1
  unfold YC.f
  simp only [if_neg (show ¬ (s.size : Int) > 600 by omega)]
  refine Ev.bind h1 ?_
  refine Ev.bind (Y63 s (by omega) _ _ hc l' hl') ?_
  simp only [if_true, if_neg hc]
  refine Ev.up ?_
  simp only [YC.j0, Bool.false_eq_true, if_false, if_neg hc]
  exact Z1b
 | @rest p l hs hp h2 =>
  obtain ⟨r, h1, hl, rfl⟩ := refn s (by omega) 0 hp (Suf.whole s) (by omega) trivial
  refine ⟨_, ?_, rfl⟩
  simp only [fR, Y3F] at h1
  unfold YC.f
  simp only [if_neg (show ¬ (s.size : Int) > 600 by omega)]
  refine Ev.bind h1 ?_
  refine Ev.bind (Y3r s (by omega) 0 l hl) ?_
  have h20 : (2 : Int) ≠ 0 := by decide
  cases e : skip l with
  | nil => exact absurd e h2
  | cons c r =>
   simp only [if_true]
   refine Ev.up ?_
   simp only [YC.j0, decide_eq_true (Y2U s c r), if_true, Y4j, Option.bind_some, if_neg h20]
   exact Z1b
inductive Y6z : S37 → Prop
 | mk {a b c d} : c.length ≤ 1000000 → d.length ≤ 1000000 → (∀ q ∈ d, Y6z q) → Y6z ⟨a, b, c, d⟩
theorem Y4S {a b : ByteArray} : a.toList = b.toList ↔ a = b := by
 rw [Lib.toList_data, Lib.toList_data]
 exact ⟨Y51, fun h => by rw [h]⟩
theorem Y3D {i n : Nat} (h : i < n) (hn : n ≤ 1000000) : wrap64 ((i : Int) + 1) = ((i + 1 : Nat) : Int) := by unfold wrap64; omega
theorem Y3x {xs : List ByteArray} {i : Nat} (h : i < xs.length) : Y37 ByteArray.empty xs (i : Int) = xs[i] := by
 unfold Y37; simp [List.getD_eq_getElem?_getD, List.getElem?_eq_getElem h]
theorem Y3M {xs : List S37} {i : Nat} (h : i < xs.length) : Yk xs (i : Int) = xs[i] := by
 unfold Yk; simp [List.getD_eq_getElem?_getD, List.getElem?_eq_getElem h]
theorem Y4d {α : Type} {xs ys : List α} {i : Nat} (h : i < xs.length) (h' : i < ys.length) : xs.drop i = ys.drop i ↔ xs[i] = ys[i] ∧ xs.drop (i + 1) = ys.drop (i + 1) := by
 rw [List.drop_eq_getElem_cons h, List.drop_eq_getElem_cons h', List.cons.injEq]
def Tells {α : Type} (g : Nat → Option Bool) (a b : α) : Prop := (a = b → Ev g true) ∧ (a ≠ b → Ev g false)
theorem s37_eq {p q : S37} : p = q ↔ p.f0 = q.f0 ∧ p.f1 = q.f1 ∧ p.f2 = q.f2 ∧ p.f3 = q.f3 := by
 cases p; cases q; simp
def Y5P (p q : S37) (k : Nat) : Option Bool := Y6.f k p.f0 p.f1 p.f2 p.f3 q.f0 q.f1 q.f2 q.f3
theorem texts_r (p q : S37) (hl : p.f2.length = q.f2.length) (hn : p.f2.length ≤ 1000000) {g : Nat → Option Bool} (hg : g = fun k => Y6.l1 k 0 p.f0 p.f1 p.f2 p.f3 q.f0 q.f1 q.f2 q.f3) : ∀ d i : Nat, i + d = p.f2.length →
  (p.f2.drop i = q.f2.drop i → ∀ r, Ev g r → Ev (fun k => Y6.l0 k (i : Int) p.f0 p.f1 p.f2 p.f3 q.f0 q.f1 q.f2 q.f3) r) ∧
  (p.f2.drop i ≠ q.f2.drop i → Ev (fun k => Y6.l0 k (i : Int) p.f0 p.f1 p.f2 p.f3 q.f0 q.f1 q.f2 q.f3) false)
 | 0, i, h => by
  refine ⟨fun _ r hr => Ev.up ?_, fun q => absurd Z1Q q⟩
  simp only [Y6.l0, if_neg (show ¬ (i : Int) < (p.f2.length : Int) by omega)]
  rw [hg] at hr
  exact hr
 | d + 1, i, h => by
  have h1 : i < p.f2.length := by omega
  have h2 : i < q.f2.length := by omega
  obtain ⟨t1, t2⟩ := texts_r p q hl hn hg d (i + 1) (by omega)
  by_cases e : p.f2[i] = q.f2[i]
  ·have st : ∀ r, Ev (fun k => Y6.l0 k ((i + 1 : Nat) : Int) p.f0 p.f1 p.f2 p.f3 q.f0 q.f1 q.f2 q.f3) r → Ev (fun k => Y6.l0 k (i : Int) p.f0 p.f1 p.f2 p.f3 q.f0 q.f1 q.f2 q.f3) r := by
    intro r hr
    refine Ev.up ?_
    simp only [Y6.l0, if_pos (show (i : Int) < (p.f2.length : Int) by omega), if_pos (show (0 : Int) ≤ (i : Int) by omega), if_pos (show (i : Int) < (q.f2.length : Int) by omega), Y3x h1, Y3x h2, if_pos (Y4S.mpr e), Y3D h1 hn]
    exact hr
   exact ⟨fun w r hr => st _ (t1 ((Y4d h1 h2).mp w).2 r hr), fun w => st _ (t2 (fun v => w ((Y4d h1 h2).mpr ⟨e, v⟩)))⟩
  ·refine ⟨fun w => absurd ((Y4d h1 h2).mp w).1 e, fun _ => Ev.up ?_⟩
   simp only [Y6.l0, if_pos (show (i : Int) < (p.f2.length : Int) by omega), if_pos (show (0 : Int) ≤ (i : Int) by omega), if_pos (show (i : Int) < (q.f2.length : Int) by omega), Y3x h1, Y3x h2, if_neg (fun w => e (Y4S.mp w))]
   exact Z1b
theorem kids_r (p q : S37) (hl : p.f3.length = q.f3.length) (hn : p.f3.length ≤ 1000000) (ih : ∀ a ∈ p.f3, ∀ b, Tells (Y5P a b) a b) : ∀ d i : Nat, i + d = p.f3.length →
  Tells (fun k => Y6.l1 k (i : Int) p.f0 p.f1 p.f2 p.f3 q.f0 q.f1 q.f2 q.f3) (p.f3.drop i) (q.f3.drop i)
 | 0, i, h => by
  refine ⟨fun _ => Ev.up ?_, fun q => absurd Z1Q q⟩
  simp only [Y6.l1, if_neg (show ¬ (i : Int) < (p.f3.length : Int) by omega)]
  exact Z1b
 | d + 1, i, h => by
  have h1 : i < p.f3.length := by omega
  have h2 : i < q.f3.length := by omega
  obtain ⟨t1, t2⟩ := kids_r p q hl hn ih d (i + 1) (by omega)
  obtain ⟨s1, s2⟩ := ih p.f3[i] (List.getElem_mem h1) q.f3[i]
  by_cases e : p.f3[i] = q.f3[i]
  ·have st : ∀ r, Ev (fun k => Y6.l1 k ((i + 1 : Nat) : Int) p.f0 p.f1 p.f2 p.f3 q.f0 q.f1 q.f2 q.f3) r → Ev (fun k => Y6.l1 k (i : Int) p.f0 p.f1 p.f2 p.f3 q.f0 q.f1 q.f2 q.f3) r := by
    intro r hr
    refine Ev.up ?_
    simp only [Y6.l1, if_pos (show (i : Int) < (p.f3.length : Int) by omega), if_pos (show (0 : Int) ≤ (i : Int) by omega), if_pos (show (i : Int) < (q.f3.length : Int) by omega), Y3M h1, Y3M h2]
    refine Ev.bind (s1 e) ?_
    simp only [if_true, Y3D h1 hn]
    exact hr
   exact ⟨fun w => st _ (t1 ((Y4d h1 h2).mp w).2), fun w => st _ (t2 (fun v => w ((Y4d h1 h2).mpr ⟨e, v⟩)))⟩
  ·refine ⟨fun w => absurd ((Y4d h1 h2).mp w).1 e, fun _ => Ev.up ?_⟩
   simp only [Y6.l1, if_pos (show (i : Int) < (p.f3.length : Int) by omega), if_pos (show (0 : Int) ≤ (i : Int) by omega), if_pos (show (i : Int) < (q.f3.length : Int) by omega), Y3M h1, Y3M h2]
   refine Ev.bind (s2 e) ?_
   simp only [Bool.false_eq_true, if_false]
   exact Z1b
theorem same_r {p : S37} (hp : Y6z p) : ∀ q, Tells (Y5P p q) p q := by
 induction hp with
 | @mk a b c d hc hd _ ih =>
  intro q
  have no : ∀ x : Int × ByteArray × List ByteArray × List S37, Ev (fun k => Y6.j0 k true a b c d q.f0 q.f1 q.f2 q.f3) false := fun _ => Ev.up (by simp only [Y6.j0, if_true]; exact Ev.now _)
  by_cases h0 : a = q.f0
  ·by_cases h1 : b = q.f1
   ·by_cases hl : c.length = q.f2.length
    ·by_cases hl3 : d.length = q.f3.length
     ·have st : ∀ r, Ev (fun k => Y6.l0 k 0 a b c d q.f0 q.f1 q.f2 q.f3) r → Ev (Y5P ⟨a, b, c, d⟩ q) r := by
       intro r hr
       refine Ev.up ?_
       simp only [Y5P, Y6.f, if_pos h0, if_pos (Y4S.mpr h1), if_pos (show (c.length : Int) = (q.f2.length : Int) by omega)]
       rw [show ((d.length : Int) != (q.f3.length : Int)) = false from by rw [hl3]; simp]
       refine Ev.up ?_
       simp only [Y6.j0, Bool.false_eq_true, if_false]
       exact hr
      have tx := texts_r ⟨a, b, c, d⟩ q hl hc rfl c.length 0 (by simp)
      have kx := kids_r ⟨a, b, c, d⟩ q hl3 hd ih d.length 0 (by simp)
      constructor
      ·rintro rfl
       exact st _ (tx.1 rfl _ (kx.1 rfl))
      ·intro ne
       by_cases h2 : c = q.f2
       ·exact st _ (tx.1 (by simpa using h2) _ (kx.2 (fun w => ne (s37_eq.mpr ⟨h0, h1, h2, by simpa using w⟩))))
       ·exact st _ (tx.2 (by simpa using h2))
     ·refine ⟨fun w => absurd (by rw [← w]) hl3, fun _ => Ev.up ?_⟩
      simp only [Y5P, Y6.f, if_pos h0, if_pos (Y4S.mpr h1), if_pos (show (c.length : Int) = (q.f2.length : Int) by omega)]
      rw [show ((d.length : Int) != (q.f3.length : Int)) = true from bne_iff_ne.mpr (by omega)]
      exact no ⟨a, b, c, d⟩
    ·refine ⟨fun w => absurd (by rw [← w]) hl, fun _ => Ev.up ?_⟩
     simp only [Y5P, Y6.f, if_pos h0, if_pos (Y4S.mpr h1), if_neg (show ¬ (c.length : Int) = (q.f2.length : Int) by omega)]
     exact no ⟨a, b, c, d⟩
   ·refine ⟨fun w => absurd (by rw [← w]) h1, fun _ => Ev.up ?_⟩
    simp only [Y5P, Y6.f, if_pos h0, if_neg (fun w => h1 (Y4S.mp w))]
    exact no ⟨a, b, c, d⟩
  ·refine ⟨fun w => absurd (by rw [← w]) h0, fun _ => Ev.up ?_⟩
   simp only [Y5P, Y6.f, if_neg h0]
   exact no ⟨a, b, c, d⟩
def FineN : NT → List UInt8 → Prop
 | .pathL p, _ => Y6z p
 | .seqL p, _ => Y6z p
 | .stepL p, _ => Y6z p
 | .notL ts, l => ts.length + l.length ≤ 1000000
 | _, _ => True
def FineR : Res → Prop
 | .ok p _ => Y6z p
 | .bad _ _ => True
theorem fine_k1 (k : Int) {p : S37} (h : Y6z p) : Y6z (pK k [p]) := .mk (by simp) (by simp) (by intro q hq; simp at hq; rw [hq]; exact h)
theorem fine_k2 (k : Int) {p q : S37} (h : Y6z p) (h2 : Y6z q) : Y6z (pK k [p, q]) := .mk (by simp) (by simp) (by
 intro x hx
 simp at hx
 rcases hx with rfl | rfl
 ·exact h
 ·exact h2)
theorem P.fine {m d l res} (h : P m d l res) : l.length ≤ 1000000 → FineN m l → FineR res := by
 induction h with
 | path_ok h1 _ ih1 ih2 => intro hl _; exact ih2 (Nat.le_trans h1.le hl) (ih1 hl trivial)
 | seq_ok h1 _ ih1 ih2 => intro hl _; exact ih2 (Nat.le_trans h1.le hl) (ih1 hl trivial)
 | step_ok h1 _ ih1 ih2 => intro hl _; exact ih2 (Nat.le_trans h1.le hl) (ih1 hl trivial)
 | @pathL_more d p l r0 q l1 res hk h1 _ ih1 ih2 =>
  intro hl hp
  have := Y2a hk
  have h2 : l1.length ≤ r0.length := h1.le
  exact ih2 (by omega) (fine_k2 4 hp (ih1 (by omega) trivial))
 | @seqL_more d p l r0 q l1 res hk h1 _ ih1 ih2 =>
  intro hl hp
  have := Y2a hk
  have h2 : l1.length ≤ r0.length := h1.le
  exact ih2 (by omega) (fine_k2 3 hp (ih1 (by omega) trivial))
 | stepL_more hk _ _ ih1 => intro hl hp; exact ih1 Z1c (fine_k1 _ hp)
 | not_ hk _ ih1 => intro hl _; exact ih1 Z1c trivial
 | nt_br hi _ ih1 => intro hl _; simp only [List.length_cons] at hl; have := Y4f hi; exact ih1 (by omega) (by simp only [FineN, List.length_cons, List.length_nil]; omega)
 | notL_more hk hi _ ih1 => intro hl hf; simp only [FineN] at hf; have := Y4f hi; have := Y2a hk; exact ih1 (by omega) (by simp only [FineN, List.length_append, List.length_cons, List.length_nil]; omega)
 | up_ok hk _ _ ih1 => intro hl _; exact fine_k1 _ (ih1 Z1c trivial)
 | br_ok hk _ _ hk2 ih1 => intro hl _; exact ih1 Z1c trivial
 | pathL_end _ => intro _ hp; exact hp
 | seqL_end _ => intro _ hp; exact hp
 | stepL_end _ _ _ => intro _ hp; exact hp
 | iri_ok _ _ => intro _ _; exact .mk (by simp) (by simp) (by simp)
 | nt_one _ _ => intro _ _; exact .mk (by simp) (by simp) (by simp)
 | notL_end hk => intro hl hf; simp only [FineN] at hf; exact .mk (by omega) (by simp) (by simp)
 | _ => intros; trivial
set_option maxRecDepth 100000 in
theorem known12 : Ev (fun k => YT.f k) true := Ev.of (fun k => YT.mono k) (k := 100) (by decide +kernel)
theorem S37.ind {M : S37 → Prop} (h : ∀ a b c d, (∀ q ∈ d, M q) → M ⟨a, b, c, d⟩) : ∀ p, M p
 | ⟨a, b, c, d⟩ => h a b c d (fun q hq => S37.ind h q)
termination_by p => SizeOf.sizeOf p
decreasing_by
 have := List.sizeOf_lt_of_mem hq
 simp
 omega
inductive Y4m : Nat → S37 → Prop
 | mk {m a b c d} : b.size ≤ 300 → c.length ≤ 20 → (∀ x ∈ c, x.size ≤ 300) → d.length ≤ 4 → (∀ q ∈ d, Y4m m q) → Y4m (m + 1) ⟨a, b, c, d⟩
def bigF (p : S37) (deep : Int) (k : Nat) : Option Bool := Yv.f k p.f0 p.f1 p.f2 p.f3 deep
theorem Y5x (p : S37) (deep : Int) (hn : p.f2.length ≤ 20) {g : Nat → Option Bool} (hg : g = fun k => Yv.l1 k deep 0 p.f0 p.f1 p.f2 p.f3) (b : Bool) (he : Ev g b) : ∀ d i : Nat, i + d = p.f2.length →
  ∃ r, Ev (fun k => Yv.l0 k deep (i : Int) p.f0 p.f1 p.f2 p.f3) r ∧ (r = false → b = false ∧ ∀ x ∈ p.f2.drop i, x.size ≤ 300)
 | 0, i, h => by
  refine ⟨b, Ev.up ?_, fun hb => ⟨hb, Z1z⟩⟩
  simp only [Yv.l0, if_neg (show ¬ (i : Int) < (p.f2.length : Int) by omega)]
  rw [hg] at he
  exact he
 | d + 1, i, h => by
  have h1 : i < p.f2.length := by omega
  by_cases hx : p.f2[i].size > 300
  ·refine ⟨true, Ev.up ?_, fun q => by cases q⟩
   simp only [Yv.l0, if_pos (show (i : Int) < (p.f2.length : Int) by omega), if_pos (show (0 : Int) ≤ (i : Int) by omega), Y3x h1, if_pos (show ((p.f2[i].size : Nat) : Int) > 300 by omega)]
   exact Z1b
  ·obtain ⟨r, h2, h3⟩ := Y5x p deep hn hg b he d (i + 1) (by omega)
   refine ⟨r, Ev.up ?_, fun q => ⟨(h3 q).1, fun x hm => ?_⟩⟩
   ·simp only [Yv.l0, if_pos (show (i : Int) < (p.f2.length : Int) by omega), if_pos (show (0 : Int) ≤ (i : Int) by omega), Y3x h1, if_neg (show ¬ ((p.f2[i].size : Nat) : Int) > 300 by omega), Y3D h1 (by omega)]
    exact h2
   ·rw [List.drop_eq_getElem_cons h1, List.mem_cons] at hm
    rcases hm with rfl | hm
    ·omega
    ·exact (h3 q).2 x hm
theorem Y68 (p : S37) (deep : Nat) (hd : deep ≤ 12) (hn : p.f3.length ≤ 4) (ih : ∀ q ∈ p.f3, ∀ e : Nat, e ≤ 13 → ∃ r, Ev (bigF q (e : Int)) r ∧ (r = false → e ≤ 12 ∧ Y4m (13 - e) q)) : ∀ d i : Nat, i + d = p.f3.length →
  ∃ r, Ev (fun k => Yv.l1 k (deep : Int) (i : Int) p.f0 p.f1 p.f2 p.f3) r ∧ (r = false → ∀ q ∈ p.f3.drop i, deep + 1 ≤ 12 ∧ Y4m (13 - (deep + 1)) q)
 | 0, i, h => by
  refine ⟨false, Ev.up ?_, fun hb => by rw [List.drop_of_length_le (by omega)]; simp⟩
  simp only [Yv.l1, if_neg (show ¬ (i : Int) < (p.f3.length : Int) by omega)]
  exact Z1b
 | d + 1, i, h => by
  have h1 : i < p.f3.length := by omega
  obtain ⟨r1, e1, h2⟩ := ih p.f3[i] (List.getElem_mem h1) (deep + 1) (by omega)
  have hw : wrap64 ((deep : Int) + 1) = ((deep + 1 : Nat) : Int) := Y3D (n := 1000) (by omega) (by omega)
  cases r1 with
  | true =>
   refine ⟨true, Ev.up ?_, fun q => by cases q⟩
   simp only [Yv.l1, if_pos (show (i : Int) < (p.f3.length : Int) by omega), if_pos (show (0 : Int) ≤ (i : Int) by omega), Y3M h1, hw]
   refine Ev.bind e1 ?_
   simp only [if_true]
   exact Z1b
  | false =>
   obtain ⟨r, h3, h4⟩ := Y68 p deep hd hn ih d (i + 1) (by omega)
   refine ⟨r, Ev.up ?_, fun q x hm => ?_⟩
   ·simp only [Yv.l1, if_pos (show (i : Int) < (p.f3.length : Int) by omega), if_pos (show (0 : Int) ≤ (i : Int) by omega), Y3M h1, hw, Y3D h1 (show p.f3.length ≤ 1000000 by omega)]
    refine Ev.bind e1 ?_
    simp only [Bool.false_eq_true, if_false]
    exact h3
   ·rw [List.drop_eq_getElem_cons h1, List.mem_cons] at hm
    rcases hm with rfl | hm
    ·exact h2 rfl
    ·exact h4 q x hm
theorem big_all : ∀ p, ∀ deep : Nat, deep ≤ 13 → ∃ r, Ev (bigF p (deep : Int)) r ∧ (r = false → deep ≤ 12 ∧ Y4m (13 - deep) p) := by
 refine S37.ind fun a b c d ih deep hd => ?_
 have yes : ∀ x : Unit, Ev (fun k => Yv.j0 k (deep : Int) true a b c d) true := fun _ => Ev.up (by simp only [Yv.j0, if_true]; exact Ev.now _)
 by_cases h1 : deep > 12
 ·refine ⟨true, Ev.up ?_, fun q => by cases q⟩
  simp only [bigF, Yv.f, if_pos (show (deep : Int) > 12 by omega)]
  exact yes ()
 ·by_cases h2 : d.length > 4
  ·refine ⟨true, Ev.up ?_, fun q => by cases q⟩
   simp only [bigF, Yv.f, if_neg (show ¬ (deep : Int) > 12 by omega), if_pos (show (d.length : Int) > 4 by omega)]
   exact yes ()
  ·by_cases h3 : c.length > 20
   ·refine ⟨true, Ev.up ?_, fun q => by cases q⟩
    simp only [bigF, Yv.f, if_neg (show ¬ (deep : Int) > 12 by omega), if_neg (show ¬ (d.length : Int) > 4 by omega), if_pos (show (c.length : Int) > 20 by omega)]
    exact yes ()
   ·by_cases h4 : b.size > 300
    ·refine ⟨true, Ev.up ?_, fun q => by cases q⟩
     simp only [bigF, Yv.f, if_neg (show ¬ (deep : Int) > 12 by omega), if_neg (show ¬ (d.length : Int) > 4 by omega), if_neg (show ¬ (c.length : Int) > 20 by omega), decide_eq_true (show (b.size : Int) > 300 by omega)]
     exact yes ()
    ·obtain ⟨r1, e1, k1⟩ := Y68 ⟨a, b, c, d⟩ deep (by omega) (show d.length ≤ 4 by omega) (fun q hq e he => ih q hq e he) d.length 0 (by simp)
     obtain ⟨r, e2, k2⟩ := Y5x ⟨a, b, c, d⟩ (deep : Int) (show c.length ≤ 20 by omega) rfl r1 e1 c.length 0 (by simp)
     refine ⟨r, Ev.up ?_, fun q => ⟨by omega, ?_⟩⟩
     ·simp only [bigF, Yv.f, if_neg (show ¬ (deep : Int) > 12 by omega), if_neg (show ¬ (d.length : Int) > 4 by omega), if_neg (show ¬ (c.length : Int) > 20 by omega), decide_eq_false (show ¬ (b.size : Int) > 300 by omega)]
      refine Ev.up ?_
      simp only [Yv.j0, Bool.false_eq_true, if_false]
      exact e2
     ·obtain ⟨q1, q2⟩ := k2 q
      have q3 := k1 q1
      obtain ⟨m, hm⟩ : ∃ m, 13 - deep = m + 1 := ⟨12 - deep, by omega⟩
      rw [hm]
      have hm2 : 13 - (deep + 1) = m := by omega
      rw [hm2] at q3
      exact .mk (by omega) (by omega) (by simpa using q2) (by omega) (fun x hx => (q3 x (by simpa using hx)).2)
theorem Y4m.fine {m : Nat} {p : S37} (h : Y4m m p) : Y6z p := by
 induction h with
 | mk h1 h2 h3 h4 _ ih => exact .mk (by omega) (by omega) ih
def Y2R (k : Int) : Int := if k = 1 ∨ k = 8 then 0 else if k = 3 ∨ k = 4 then 2 else if k = 2 ∨ k = 5 ∨ k = 6 ∨ k = 7 then 1 else -1
theorem kidsI (a : Int) : Ev (fun k => YI.f k a) (Y2R a) := by
 by_cases h1 : a = 1
 ·subst h1; exact Ev.of (fun k => YI.mono _ k) (k := 5) (by decide)
 by_cases h2 : a = 2
 ·subst h2; exact Ev.of (fun k => YI.mono _ k) (k := 5) (by decide)
 by_cases h3 : a = 3
 ·subst h3; exact Ev.of (fun k => YI.mono _ k) (k := 5) (by decide)
 by_cases h4 : a = 4
 ·subst h4; exact Ev.of (fun k => YI.mono _ k) (k := 5) (by decide)
 by_cases h5 : a = 5
 ·subst h5; exact Ev.of (fun k => YI.mono _ k) (k := 5) (by decide)
 by_cases h6 : a = 6
 ·subst h6; exact Ev.of (fun k => YI.mono _ k) (k := 5) (by decide)
 by_cases h7 : a = 7
 ·subst h7; exact Ev.of (fun k => YI.mono _ k) (k := 5) (by decide)
 by_cases h8 : a = 8
 ·subst h8; exact Ev.of (fun k => YI.mono _ k) (k := 5) (by decide)
 have e : Y2R a = -1 := by simp [Y2R, h1, h2, h3, h4, h5, h6, h7, h8]
 rw [e]
 refine Ev.of (fun k => YI.mono _ k) (k := 5) ?_
 have b : ∀ n : Int, ¬ a = n → (a == n) = false := fun n h => beq_eq_false_iff_ne.mpr h
 simp [YI.f, YI.j0, YI.j1, h1, h2, h3, h4, h5, h6, h7, b 8 h8, b 7 h7]
theorem kidsR (a : Int) : Ev (fun k => Yr.f k a) (Y2R a) := by
 by_cases h1 : a = 1
 ·subst h1; exact Ev.of (fun k => Yr.mono _ k) (k := 5) (by decide)
 by_cases h2 : a = 2
 ·subst h2; exact Ev.of (fun k => Yr.mono _ k) (k := 5) (by decide)
 by_cases h3 : a = 3
 ·subst h3; exact Ev.of (fun k => Yr.mono _ k) (k := 5) (by decide)
 by_cases h4 : a = 4
 ·subst h4; exact Ev.of (fun k => Yr.mono _ k) (k := 5) (by decide)
 by_cases h5 : a = 5
 ·subst h5; exact Ev.of (fun k => Yr.mono _ k) (k := 5) (by decide)
 by_cases h6 : a = 6
 ·subst h6; exact Ev.of (fun k => Yr.mono _ k) (k := 5) (by decide)
 by_cases h7 : a = 7
 ·subst h7; exact Ev.of (fun k => Yr.mono _ k) (k := 5) (by decide)
 by_cases h8 : a = 8
 ·subst h8; exact Ev.of (fun k => Yr.mono _ k) (k := 5) (by decide)
 have e : Y2R a = -1 := by simp [Y2R, h1, h2, h3, h4, h5, h6, h7, h8]
 rw [e]
 refine Ev.of (fun k => Yr.mono _ k) (k := 5) ?_
 have b : ∀ n : Int, ¬ a = n → (a == n) = false := fun n h => beq_eq_false_iff_ne.mpr h
 simp [Yr.f, Yr.j0, Yr.j1, h1, h2, h3, h4, h5, h6, h7, b 8 h8, b 4 h4]
def Top (deep : Nat) (p : S37) : Prop :=
 deep ≤ 5 ∧ Y2R p.f0 = (p.f3.length : Int) ∧ (p.f0 = 1 → Y38 p.f1 = true) ∧ (p.f0 ≠ 1 → p.f1 = ⟨#[]⟩) ∧ (p.f0 = 8 → 1 ≤ p.f2.length ∧ p.f2.length ≤ 4) ∧ (p.f0 ≠ 8 → p.f2 = []) ∧ ∀ x ∈ p.f2, Y38 x = true
inductive May : Nat → S37 → Prop
 | mk {deep p} : Top deep p → (∀ q ∈ p.f3, May (deep + 1) q) → May deep p
def cntI (p : S37) (deep : Int) (k : Nat) : Option Int := Yx.f k p.f0 p.f1 p.f2 p.f3 deep
def cntR (p : S37) (deep : Int) (k : Nat) : Option Int := Y5.f k p.f0 p.f1 p.f2 p.f3 deep
theorem Y5n {t : ByteArray} (h : Y38 t = true) : 0 < t.size ∧ t.size ≤ 60 := by
 unfold Y38 at h
 simp only [Bool.and_eq_true, decide_eq_true_eq] at h
 exact ⟨h.1.1.1, h.1.1.2⟩
theorem iri_nil : Y38 ⟨#[]⟩ = false := by
 cases h : Y38 ⟨#[]⟩ with
 | false => rfl
 | true => have := (Y5n h).1; exact absurd this (by decide)
theorem Y4e {t : ByteArray} : t.toList = ([] : List UInt8) ↔ t = ⟨#[]⟩ := by
 rw [← Y4S]
 have : (⟨#[]⟩ : ByteArray).toList = [] := by rw [Lib.toList_data]
 rw [this]
theorem tI {t : ByteArray} (h : t.size ≤ 1000000) : Y19.f t = some (Y38 t) := by
 unfold Y19.f; rw [if_pos Z1y]
theorem tR {t : ByteArray} (h : t.size ≤ 1000000) : YV.f t = some (Y38 t) := by
 unfold YV.f; rw [if_pos Z1y]
theorem nI {t : ByteArray} (h : t.size ≤ 1000000) : Y1k.f t = some (!Y38 t) := by
 unfold Y1k.f; rw [tI h]; rfl
theorem cf_l (xs : List ByteArray) (hn : xs.length ≤ 20) (hx : ∀ x ∈ xs, x.size ≤ 300) : ∀ d i : Nat, i + d = xs.length →
  ((∀ x ∈ xs.drop i, Y38 x = true) → Ev (fun k => Yo.l0 k xs (xs.length : Int) (i : Int)) (-1)) ∧
  ((¬ ∀ x ∈ xs.drop i, Y38 x = true) → ∃ j : Nat, Ev (fun k => Yo.l0 k xs (xs.length : Int) (i : Int)) (j : Int))
 | 0, i, h => by
  refine ⟨fun _ => Ev.up ?_, fun q => absurd Z1z q⟩
  simp only [Yo.l0, if_neg (show ¬ (i : Int) < (xs.length : Int) by omega)]
  exact Z1b
 | d + 1, i, h => by
  have h1 : i < xs.length := by omega
  have hs := nI (t := xs[i]) (by have := hx xs[i] (List.getElem_mem h1); omega)
  obtain ⟨t1, t2⟩ := cf_l xs hn hx d (i + 1) (by omega)
  rw [List.drop_eq_getElem_cons h1]
  by_cases e : Y38 xs[i] = true
  ·have st : ∀ r, Ev (fun k => Yo.l0 k xs (xs.length : Int) ((i + 1 : Nat) : Int)) r → Ev (fun k => Yo.l0 k xs (xs.length : Int) (i : Int)) r := by
    intro r hr
    refine Ev.up ?_
    simp only [Yo.l0, if_pos (show (i : Int) < (xs.length : Int) by omega), if_pos (show (0 : Int) ≤ (i : Int) by omega), Y3x h1, hs, e, Option.bind_some, Bool.not_true, Bool.false_eq_true, if_false, Y3D h1 (show xs.length ≤ 1000000 by omega)]
    exact hr
   exact ⟨fun q => st _ (t1 (fun x m => q x (List.mem_cons_of_mem _ m))), fun q => by
    obtain ⟨j, hj⟩ := t2 (fun w => q (fun x m => by
     rcases List.mem_cons.mp m with rfl | m
     ·exact e
     ·exact w x m))
    exact ⟨j, st _ hj⟩⟩
  ·refine ⟨fun q => absurd (q _ (List.mem_cons_self ..)) e, fun _ => ⟨i, Ev.up ?_⟩⟩
   have e2 : Y38 xs[i] = false := by simpa using e
   simp only [Yo.l0, if_pos (show (i : Int) < (xs.length : Int) by omega), if_pos (show (0 : Int) ≤ (i : Int) by omega), Y3x h1, hs, e2, Option.bind_some, Bool.not_false, if_true]
   exact Z1b
theorem cf (xs : List ByteArray) (hn : xs.length ≤ 20) (hx : ∀ x ∈ xs, x.size ≤ 300) : ∃ b, Ev (fun k => Yy.f k xs) b ∧ (b = false ↔ ∀ x ∈ xs, Y38 x = true) := by
 obtain ⟨t1, t2⟩ := cf_l xs hn hx xs.length 0 (by omega)
 by_cases e : ∀ x ∈ xs, Y38 x = true
 ·exact ⟨false, Ev.bind (t1 e) (Ev.congr (fun k => by simp) (Ev.now _)), by simpa using e⟩
 ·obtain ⟨j, hj⟩ := t2 e
  refine ⟨true, Ev.bind hj (Ev.congr (fun k => by rw [decide_eq_true (show (j : Int) ≥ 0 by omega)]) (Ev.now _)), by simpa using e⟩
theorem count_top {m : Nat} (p : S37) (hp : Y4m m p) (deep : Nat) :
  (¬ Top deep p → Ev (cntI p (deep : Int)) (-1)) ∧ (Top deep p → ∀ r, Ev (fun k => Yx.l0 k (deep : Int) 1 p.f3 (p.f3.length : Int) 0) r → Ev (cntI p (deep : Int)) r) := by
 obtain ⟨hb, hc, hx, hd, _⟩ := hp
 rename_i m a b c d hk
 have hnb := nI (t := b) (by omega)
 obtain ⟨cb, ec, hcb⟩ := cf c hc hx
 constructor
 ·intro hn
  refine Ev.up ?_
  simp only [cntI, Yx.f]
  by_cases h5 : (deep : Int) > 5
  ·simp only [if_pos h5]; exact Ev.now _
  simp only [if_neg h5]
  refine Ev.bind (kidsI a) ?_
  by_cases hk2 : (d.length : Int) = Y2R a
  ·simp only [if_pos hk2]
   by_cases ht : ((a == 1) == (b.toList != ([] : List UInt8))) = true
   ·simp only [if_pos ht]
    by_cases ht2 : ((a == 8) == (decide ((c.length : Int) > 0))) = true
    ·simp only [if_pos ht2]
     by_cases h4 : (c.length : Int) > 4
     ·simp only [if_pos h4]; exact Ev.now _
     simp only [if_neg h4]
     simp only [beq_iff_eq] at ht ht2
     have h8 : (a = 8 → 1 ≤ c.length ∧ c.length ≤ 4) ∧ (a ≠ 8 → c = []) := by
      by_cases e8 : a = 8
      ·rw [beq_iff_eq.mpr e8] at ht2
       have := of_decide_eq_true ht2.symm
       exact ⟨fun _ => by omega, fun q => absurd e8 q⟩
      ·rw [beq_eq_false_iff_ne.mpr e8] at ht2
       have := of_decide_eq_false ht2.symm
       exact ⟨fun q => absurd q e8, fun _ => List.eq_nil_of_length_eq_zero (by omega)⟩
     by_cases hbe : b.toList = ([] : List UInt8)
     ·simp only [if_pos hbe]
      refine Ev.bind ec ?_
      cases cb with
      | true => simp only [if_true]; exact Ev.now _
      | false =>
       exfalso
       have a1 : a ≠ 1 := by
        intro e
        rw [beq_iff_eq.mpr e, hbe] at ht
        cases ht
       exact hn ⟨by omega, hk2.symm, fun q => absurd q a1, fun _ => Y4e.mp hbe, h8.1, h8.2, hcb.mp rfl⟩
     ·simp only [if_neg hbe, hnb, Option.bind_some]
      cases hi : Y38 b with
      | false => simp only [Bool.not_false, if_true]; exact Ev.now _
      | true =>
       simp only [Bool.not_true, Bool.false_eq_true, if_false]
       refine Ev.bind ec ?_
       cases cb with
       | true => simp only [if_true]; exact Ev.now _
       | false =>
        exfalso
        have a1 : a = 1 := by
         rw [bne_iff_ne.mpr hbe] at ht
         simpa using ht
        exact hn ⟨by omega, hk2.symm, fun _ => hi, fun q => absurd a1 q, h8.1, h8.2, hcb.mp rfl⟩
    ·simp only [if_neg ht2]; exact Ev.now _
   ·simp only [if_neg ht]; exact Ev.now _
  ·simp only [if_neg hk2]; exact Ev.now _
 ·rintro ⟨h5, hk2, hi, hb0, h8, h80, hall⟩ r hr
  simp only at h5 hk2 hi hb0 h8 h80 hall hr
  have hcb2 := hcb.mpr hall
  subst hcb2
  refine Ev.up ?_
  simp only [cntI, Yx.f, if_neg (show ¬ (deep : Int) > 5 by omega)]
  refine Ev.bind (kidsI a) ?_
  simp only [if_pos hk2.symm]
  have h4 : ¬ (c.length : Int) > 4 := by
   by_cases e8 : a = 8
   ·have := h8 e8; omega
   ·rw [h80 e8]; simp
  have ht2 : ((a == 8) == (decide ((c.length : Int) > 0))) = true := by
   by_cases e8 : a = 8
   ·have := h8 e8
    rw [beq_iff_eq.mpr e8, decide_eq_true (show (c.length : Int) > 0 by omega)]; rfl
   ·rw [beq_eq_false_iff_ne.mpr e8, h80 e8]; rfl
  by_cases a1 : a = 1
  ·have hb1 := hi a1
   have hbe : ¬ b.toList = ([] : List UInt8) := by
    intro e
    rw [Y4e.mp e, iri_nil] at hb1
    cases hb1
   have ht : ((a == 1) == (b.toList != ([] : List UInt8))) = true := by
    rw [beq_iff_eq.mpr a1, bne_iff_ne.mpr hbe]; rfl
   simp only [if_pos ht, if_pos ht2, if_neg h4, if_neg hbe, hnb, hb1, Option.bind_some, Bool.not_true, Bool.false_eq_true, if_false]
   refine Ev.bind ec ?_
   simp only [Bool.false_eq_true, if_false]
   exact hr
  ·have hbe : b.toList = ([] : List UInt8) := Y4e.mpr (hb0 a1)
   have ht : ((a == 1) == (b.toList != ([] : List UInt8))) = true := by
    rw [beq_eq_false_iff_ne.mpr a1, hbe]; rfl
   simp only [if_pos ht, if_pos ht2, if_neg h4, if_pos hbe]
   refine Ev.bind ec ?_
   simp only [Bool.false_eq_true, if_false]
   exact hr
theorem Y5I (p : S37) (deep : Int) (hn : p.f2.length ≤ 20) (hx : ∀ x ∈ p.f2, x.size ≤ 300) {g : Nat → Option Int} (hg : g = fun k => Y5.l1 k deep 1 0 p.f0 p.f1 p.f2 p.f3) : ∀ d i : Nat, i + d = p.f2.length →
  ((∀ x ∈ p.f2.drop i, Y38 x = true) → ∀ r, Ev g r → Ev (fun k => Y5.l0 k deep (i : Int) p.f0 p.f1 p.f2 p.f3) r) ∧
  ((¬ ∀ x ∈ p.f2.drop i, Y38 x = true) → Ev (fun k => Y5.l0 k deep (i : Int) p.f0 p.f1 p.f2 p.f3) (-1))
 | 0, i, h => by
  refine ⟨fun _ r hr => Ev.up ?_, fun q => absurd Z1z q⟩
  simp only [Y5.l0, if_neg (show ¬ (i : Int) < (p.f2.length : Int) by omega)]
  rw [hg] at hr
  exact hr
 | d + 1, i, h => by
  have h1 : i < p.f2.length := by omega
  have hs := tR (t := p.f2[i]) (by have := hx p.f2[i] (List.getElem_mem h1); omega)
  obtain ⟨t1, t2⟩ := Y5I p deep hn hx hg d (i + 1) (by omega)
  rw [List.drop_eq_getElem_cons h1]
  by_cases e : Y38 p.f2[i] = true
  ·have st : ∀ r, Ev (fun k => Y5.l0 k deep ((i + 1 : Nat) : Int) p.f0 p.f1 p.f2 p.f3) r → Ev (fun k => Y5.l0 k deep (i : Int) p.f0 p.f1 p.f2 p.f3) r := by
    intro r hr
    refine Ev.up ?_
    simp only [Y5.l0, if_pos (show (i : Int) < (p.f2.length : Int) by omega), if_pos (show (0 : Int) ≤ (i : Int) by omega), Y3x h1, hs, e, Option.bind_some, if_true, Y3D h1 (show p.f2.length ≤ 1000000 by omega)]
    exact hr
   exact ⟨fun q r hr => st _ (t1 (fun x m => q x (List.mem_cons_of_mem _ m)) r hr), fun q => st _ (t2 (fun w => q (fun x m => by
     rcases List.mem_cons.mp m with rfl | m
     ·exact e
     ·exact w x m)))⟩
  ·refine ⟨fun q => absurd (q _ (List.mem_cons_self ..)) e, fun _ => Ev.up ?_⟩
   have e2 : Y38 p.f2[i] = false := by simpa using e
   simp only [Y5.l0, if_pos (show (i : Int) < (p.f2.length : Int) by omega), if_pos (show (0 : Int) ≤ (i : Int) by omega), Y3x h1, hs, e2, Option.bind_some, Bool.false_eq_true, if_false]
   exact Z1b
theorem may_top {m : Nat} (p : S37) (hp : Y4m m p) (deep : Nat) :
  (¬ Top deep p → Ev (cntR p (deep : Int)) (-1)) ∧ (Top deep p → ∀ r, Ev (fun k => Y5.l1 k (deep : Int) 1 0 p.f0 p.f1 p.f2 p.f3) r → Ev (cntR p (deep : Int)) r) := by
 obtain ⟨hb, hc, hx, hd, _⟩ := hp
 rename_i m a b c d hk
 have hnb := tR (t := b) (by omega)
 obtain ⟨x1, x2⟩ := Y5I ⟨a, b, c, d⟩ (deep : Int) hc hx rfl c.length 0 (by simp)
 simp only [List.drop_zero] at x1 x2
 have z0 : Ev (fun k => Y5.j0 k (deep : Int) true a b c d) (-1) := Ev.up (by simp only [Y5.j0, if_true]; exact Ev.now _)
 have z1 : Ev (fun k => Y5.j1 k (deep : Int) true a b c d) (-1) := Ev.up (by simp only [Y5.j1, if_true]; exact Ev.now _)
 have y1 : ∀ r, Ev (fun k => Y5.l0 k (deep : Int) 0 a b c d) r → Ev (fun k => Y5.j1 k (deep : Int) false a b c d) r := fun r h => Ev.up (by simp only [Y5.j1, Bool.false_eq_true, if_false]; exact h)
 have y0 : ∀ r, ((a = 1 → Y38 b = true) ∧ (a = 8 → 1 ≤ c.length ∧ c.length ≤ 4) → Ev (fun k => Y5.l0 k (deep : Int) 0 a b c d) r) → (¬ ((a = 1 → Y38 b = true) ∧ (a = 8 → 1 ≤ c.length ∧ c.length ≤ 4)) → r = -1) → Ev (fun k => Y5.j0 k (deep : Int) false a b c d) r := by
  intro r h1 h2
  refine Ev.up ?_
  simp only [Y5.j0, Bool.false_eq_true, if_false]
  by_cases a1 : a = 1
  ·have a8 : ¬ a = 8 := by omega
   simp only [if_pos a1, hnb, Option.bind_some]
   cases hi : Y38 b with
   | true =>
    simp only [if_true, if_neg a8]
    exact y1 _ (h1 ⟨fun _ => hi, fun q => absurd q a8⟩)
   | false =>
    simp only [Bool.false_eq_true, if_false]
    rw [h2 (fun q => by rw [hi] at q; exact absurd (q.1 a1) (by simp))]
    exact z1
  ·simp only [if_neg a1]
   by_cases a8 : a = 8
   ·simp only [if_pos a8]
    by_cases l1 : (c.length : Int) < 1
    ·simp only [if_pos l1]
     rw [h2 (fun q => by have := q.2 a8; omega)]
     exact z1
    ·by_cases l4 : (c.length : Int) > 4
     ·simp only [if_neg l1, decide_eq_true l4]
      rw [h2 (fun q => by have := q.2 a8; omega)]
      exact z1
     ·simp only [if_neg l1, decide_eq_false l4]
      exact y1 _ (h1 ⟨fun q => absurd q a1, fun _ => by omega⟩)
   ·simp only [if_neg a8]
    exact y1 _ (h1 ⟨fun q => absurd q a1, fun q => absurd q a8⟩)
 have key : ∀ r, (Top deep ⟨a, b, c, d⟩ → Ev (fun k => Y5.l1 k (deep : Int) 1 0 a b c d) r) → (¬ Top deep ⟨a, b, c, d⟩ → r = -1) → Ev (cntR ⟨a, b, c, d⟩ (deep : Int)) r := by
  intro r h1 h2
  refine Ev.up ?_
  simp only [cntR, Y5.f]
  refine Ev.bind (kidsR a) ?_
  by_cases hk2 : Y2R a = (d.length : Int)
  ·simp only [if_pos hk2]
   by_cases h5 : (deep : Int) > 5
   ·simp only [if_pos h5]
    rw [h2 (fun q => by have := q.1; omega)]
    exact z0
   ·simp only [if_neg h5]
    have main : (a ≠ 1 → b = ⟨#[]⟩) → (a ≠ 8 → c = []) → Ev (fun k => Y5.j0 k (deep : Int) false a b c d) r := by
     intro hb0 h80
     refine y0 r (fun q => ?_) (fun q => h2 (fun t => q ⟨t.2.2.1, t.2.2.2.2.1⟩))
     by_cases hall : ∀ x ∈ c, Y38 x = true
     ·exact x1 hall _ (h1 ⟨by omega, hk2, q.1, hb0, q.2, h80, hall⟩)
     ·rw [h2 (fun t => hall t.2.2.2.2.2.2)]
      exact x2 hall
    by_cases a1 : a = 1
    ·have a8 : ¬ a = 8 := by omega
     simp only [if_pos a1, if_neg a8]
     by_cases l0 : (c.length : Int) > 0
     ·simp only [decide_eq_true l0]
      rw [h2 (fun t => by have hc0 : c = [] := t.2.2.2.2.2.1 a8; rw [hc0] at l0; simp at l0)]
      exact z0
     ·simp only [decide_eq_false l0]
      exact main (fun q => absurd a1 q) (fun _ => List.eq_nil_of_length_eq_zero (by omega))
    ·simp only [if_neg a1]
     by_cases hbe : b.toList = ([] : List UInt8)
     ·simp only [if_pos hbe]
      by_cases a8 : a = 8
      ·simp only [if_pos a8]
       exact main (fun _ => Y4e.mp hbe) (fun q => absurd a8 q)
      ·simp only [if_neg a8]
       by_cases l0 : (c.length : Int) > 0
       ·simp only [decide_eq_true l0]
        rw [h2 (fun t => by have hc0 : c = [] := t.2.2.2.2.2.1 a8; rw [hc0] at l0; simp at l0)]
        exact z0
       ·simp only [decide_eq_false l0]
        exact main (fun _ => Y4e.mp hbe) (fun _ => List.eq_nil_of_length_eq_zero (by omega))
     ·simp only [if_neg hbe]
      rw [h2 (fun t => hbe (Y4e.mpr (t.2.2.2.1 a1)))]
      exact z0
  ·simp only [if_neg hk2]
   rw [h2 (fun q => hk2 q.2.1)]
   exact z0
 exact ⟨fun hn => key _ (fun t => absurd t hn) (fun _ => rfl), fun ht r hr => key r (fun _ => hr) (fun hn => absurd ht hn)⟩
theorem Y57 (p : S37) (deep : Nat) (hd : deep ≤ 12) (B : Nat) (hB : B ≤ 4398046511104) (hn : p.f3.length ≤ 4)
  (ih : ∀ q ∈ p.f3, ∃ v : Int, Ev (cntI q ((deep + 1 : Nat) : Int)) v ∧ Ev (cntR q ((deep + 1 : Nat) : Int)) v ∧ (v = -1 ∨ (1 ≤ v ∧ v ≤ B ∧ May (deep + 1) q))) : ∀ d i : Nat, i + d = p.f3.length → ∀ x : Nat, 1 ≤ x → x ≤ 1 + i * B →
  ∃ v : Int, Ev (fun k => Yx.l0 k (deep : Int) (x : Int) p.f3 (p.f3.length : Int) (i : Int)) v ∧ Ev (fun k => Y5.l1 k (deep : Int) (x : Int) (i : Int) p.f0 p.f1 p.f2 p.f3) v ∧ (v = -1 ∨ (1 ≤ v ∧ v ≤ 1 + p.f3.length * B ∧ ∀ q ∈ p.f3.drop i, May (deep + 1) q))
 | 0, i, h, x, hx1, hx => by
  have hx2 : ((x : Nat) : Int) ≤ 1 + (p.f3.length : Int) * (B : Int) := by
   have e : i = p.f3.length := by omega
   rw [← e]; exact_mod_cast hx
  refine ⟨x, Ev.up ?_, Ev.up ?_, Or.inr ⟨by omega, hx2, Z1z⟩⟩
  ·simp only [Yx.l0, if_neg (show ¬ (i : Int) < (p.f3.length : Int) by omega)]
   exact Z1b
  ·simp only [Y5.l1, if_neg (show ¬ (i : Int) < (p.f3.length : Int) by omega)]
   exact Z1b
 | d + 1, i, h, x, hx1, hx => by
  have h1 : i < p.f3.length := by omega
  obtain ⟨v, e1, e2, hv⟩ := ih p.f3[i] (List.getElem_mem h1)
  have hw : wrap64 ((deep : Int) + 1) = ((deep + 1 : Nat) : Int) := Y3D (n := 1000) (by omega) (by omega)
  have p1 := show (i : Int) < (p.f3.length : Int) by omega
  have p0 := show (0 : Int) ≤ (i : Int) by omega
  rcases hv with rfl | ⟨v1, v2, v3⟩
  ·refine ⟨-1, Ev.up ?_, Ev.up ?_, Or.inl rfl⟩
   ·simp only [Yx.l0, if_pos p1, if_pos p0, Y3M h1, hw]
    exact Ev.bind e1 (Ev.congr (fun k => by simp) (Ev.now _))
   ·simp only [Y5.l1, if_pos p1, if_pos p0, Y3M h1, hw]
    exact Ev.bind e2 (Ev.congr (fun k => by simp) (Ev.now _))
  ·obtain ⟨n, rfl⟩ := Int.eq_ofNat_of_zero_le (show 0 ≤ v by omega)
   have hi4 : i ≤ 4 := by omega
   have hnB : n ≤ B := by omega
   have hxB : x + n ≤ 1 + (i + 1) * B := by rw [Nat.add_mul]; omega
   have hiB : (i + 1) * B ≤ 5 * B := Nat.mul_le_mul_right B (by omega)
   have hw2 : wrap64 ((x : Int) + (n : Int)) = ((x + n : Nat) : Int) := by
    unfold wrap64
    omega
   obtain ⟨v, f1, f2, f3⟩ := Y57 p deep hd B hB hn ih d (i + 1) (by omega) (x + n) (Nat.le_trans hx1 (Nat.le_add_right _ _)) hxB
   refine ⟨v, Ev.up ?_, Ev.up ?_, ?_⟩
   ·simp only [Yx.l0, if_pos p1, if_pos p0, Y3M h1, hw]
    refine Ev.bind e1 ?_
    simp only [if_neg (show ¬ (n : Int) < 0 by omega), Y3D h1 (show p.f3.length ≤ 1000000 by omega)]
    rw [hw2]
    exact f1
   ·simp only [Y5.l1, if_pos p1, if_pos p0, Y3M h1, hw]
    refine Ev.bind e2 ?_
    simp only [if_neg (show ¬ (n : Int) < 0 by omega), Y3D h1 (show p.f3.length ≤ 1000000 by omega)]
    rw [hw2]
    exact f2
   ·rcases f3 with f3 | ⟨g1, g2, g3⟩
    ·exact Or.inl f3
    ·refine Or.inr ⟨g1, g2, fun q hq => ?_⟩
     rw [List.drop_eq_getElem_cons h1, List.mem_cons] at hq
     rcases hq with rfl | hq
     ·exact v3
     ·exact g3 q hq
theorem count_may {m : Nat} {p : S37} (hp : Y4m m p) : ∀ deep : Nat, deep + m ≤ 13 → ∃ v : Int, Ev (cntI p (deep : Int)) v ∧ Ev (cntR p (deep : Int)) v ∧ (v = -1 ∨ (1 ≤ v ∧ v ≤ ((8 ^ m : Nat) : Int) ∧ May deep p)) := by
 induction hp with
 | @mk m a b c d hb hc hx hd hk ih =>
  intro deep hm
  have hp : Y4m (m + 1) ⟨a, b, c, d⟩ := .mk hb hc hx hd hk
  obtain ⟨c1, c2⟩ := count_top _ hp deep
  obtain ⟨m1, m2⟩ := may_top _ hp deep
  by_cases ht : Top deep ⟨a, b, c, d⟩
  ·obtain ⟨v, e1, e2, e3⟩ := Y57 ⟨a, b, c, d⟩ deep (by omega) (8 ^ m) (Nat.le_trans (Nat.pow_le_pow_right (by omega) (show m ≤ 14 by omega)) (by decide)) hd (fun q hq => ih q hq (deep + 1) (by omega)) d.length 0 (by simp) 1 (by omega) (by omega)
   refine ⟨v, c2 ht _ e1, m2 ht _ e2, ?_⟩
   rcases e3 with e3 | ⟨g1, g2, g3⟩
   ·exact Or.inl e3
   ·refine Or.inr ⟨g1, ?_, .mk ht (by simpa using g3)⟩
    have : 1 ≤ 8 ^ m := Nat.pos_of_ne_zero (by simp)
    have h4 : d.length * 8 ^ m ≤ 4 * 8 ^ m := Nat.mul_le_mul_right _ hd
    have h5 : 1 + d.length * 8 ^ m ≤ 8 ^ (m + 1) := by rw [Nat.pow_succ]; omega
    refine Int.le_trans g2 ?_
    exact_mod_cast h5
  ·exact ⟨-1, c1 ht, m1 ht, Or.inl rfl⟩
def isI (p : S37) (k : Nat) : Option Bool := Y1e.f k p.f0 p.f1 p.f2 p.f3
end Go.Proofs.YtbpbfboaofkpaaaDoor.Print
end
