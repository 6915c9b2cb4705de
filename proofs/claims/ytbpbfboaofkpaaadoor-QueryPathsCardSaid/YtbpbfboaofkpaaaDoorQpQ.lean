/- QueryPaths: any text as a path, or the place and the error, by both readers alike. Conditions: none but the row's own (the two tables of unicode/utf8 as the program lays them). -/
import Derived.Test.YtbpbfboaofkpaaaDoorQpQ5
import Derived.Test.YtbpbfboaofkpaaaDoorCards
import Derived.Test.YtbpbfboaofkpaaaDoorTie
import Derived.SevenTiedAt
import Derived.ChangeMaps5
section
namespace Go.Proofs.YtbpbfboaofkpaaaDoor.Print
open Go.RowKit Go.Proofs.YtbpbfboaofkpaaaDoorW.PrintWords Go.Proofs.YtbpbfboaofkpaaaDoorW.PrintLast Go.Proofs.YtbpbfboaofkpaaaDoorW.PrintMore
attribute [local go_sem] max2_int min2_int max_two min_two max_three min_three max_four min_four
set_option linter.unusedVariables false
set_option linter.unusedSimpArgs false
set_option maxHeartbeats 8000000 in
set_option maxRecDepth 100000 in
theorem YD.calls (k : Nat) (a0 : ByteArray) (r1 : Int) (r2 : ByteArray) (r3 : List ByteArray) (r4 : List (S37)) (r5 : Int) (r6 : Int) (w : World) (hT : Tabs w) (h : YD.f k a0 = some (r1, r2, r3, r4, r5, r6)) :
  Calls Tryd.prog 26 #[.string a0] w fun e w' => ∃ v2_ v3_ : Value, e = .returned (.tuple #[.agg #[.int .i64 r1, .string r2, v2_, v3_], .int .i64 r5, .int .i64 r6]) ∧ Kd.R Kd.string 9 w' w.heap.size (fun k_ => (w.heap.size ≤ k_)) v2_ r3 ∧ Kd.N k37 37 w' w.heap.size (fun k_ => (w.heap.size ≤ k_) ∧ some k_ ≠ (v2_ : Value).ownBlock) v3_ r4 ∧ Below w.heap.size w w' := by
 have HT := Y0.mk hT
 clear hT
 have hu37 := Tryd.underlying37
 have hu81 := Tryd.underlying81
 have HB := Y0.mk (Below.refl w.heap.size w)
 have H : (if (a0.size : Int) > 600 then (some (0, (⟨#[]⟩ : ByteArray), ([] : List ByteArray), ([] : List (S37)), 0, 4)) else ((Yl.f k a0 0 0 0 0).bind fun bt103 => ((Y4.f k bt103.2.2.2.2.1 bt103.2.2.2.2.2.1 bt103.2.2.2.2.2.2.1 bt103.2.2.2.2.2.2.2).bind fun bt116 => (if bt116.2.2.2.1 = 0 then (YD.j0 k a0 (decide (bt116.2.2.1 < (a0.size : Int))) bt116.2.1 bt116.2.2.1 bt116.2.2.2.1 bt116.2.2.2.2 bt103.1 bt103.2.1 bt103.2.2.1 bt103.2.2.2.1) else (YD.j0 k a0 false bt116.2.1 bt116.2.2.1 bt116.2.2.2.1 bt116.2.2.2.2 bt103.1 bt103.2.1 bt103.2.2.1 bt103.2.2.2.1))))) = some (r1, r2, r3, r4, r5, r6) := h
 clear h
 by_cases c2 : (a0.size : Int) > 600
 ·rw [if_pos c2] at H
  have c2b0 : decide (600 < (a0.size : Int)) = true := decide_eq_true c2
  have c2b1 : decide (600 < a0.size) = true := decide_eq_true (by omega)
  clear c2
  simp only [Option.some.injEq, Prod.mk.injEq] at H
  obtain ⟨rfl, rfl, rfl, rfl, rfl, rfl⟩ := H
  go_enter Tryd.func26, Tryd.ntmps26
  go_wp2_with (first | ((with_reducible refine YG (N := 2) rfl ?_); (try (refine Y13 (by rfl) ?_; dsimp only)); refine YC ?hg (N := 2) ?hd (cs := #[.int .i64 0, .string (⟨#[]⟩ : ByteArray), .slice none 0 0, .slice none 0 0]) (t := 37) ?hr ?_; (case hd => rfl); (case hg => rfl); (case hr => exact Z8); intro gb101 hg w3 hbox hb; have n_ := Y2v (Yd QB hb) (hbox) ((by rw [hg]; exact (Yc QB) : w.heap.size ≤ gb101)) ((by rw [hg]; exact (Yc QB) : w.heap.size ≤ gb101)); clear HB; obtain ⟨HB, BK101, GW101, GE101⟩ := n_; clear hb hbox hg; obtain ⟨hcz4_0, hcz4_1, hcz4_2, hcz4_3, hfz4_0, hfz4_1, hfz4_2, hfz4_3⟩ := YA BK101.out))
  refine bodyPost_ret (Y1L rfl _ _ gb101 37 #[.int .i64 0, .string (⟨#[]⟩ : ByteArray), .slice none 0 0, .slice none 0 0] (0, 0) _ rfl Z2w Tryd.underlying37 rfl Z5) rfl ?_
  exact Z2T
 ·rw [if_neg c2] at H
  have c2b0 : decide (600 < (a0.size : Int)) = false := decide_eq_false c2
  have c2b1 : decide (600 < a0.size) = false := decide_eq_false (by omega)
  clear c2
  replace H := Option.bind_eq_some_iff.mp H
  obtain ⟨⟨t103, t104, t105, t108, t111, t112, t113, t114⟩, A50, H⟩ := H
  replace H : ((Y4.f k t111 t112 t113 t114).bind fun bt116 => (if bt116.2.2.2.1 = 0 then (YD.j0 k a0 (decide (bt116.2.2.1 < (a0.size : Int))) bt116.2.1 bt116.2.2.1 bt116.2.2.2.1 bt116.2.2.2.2 t103 t104 t105 t108) else (YD.j0 k a0 false bt116.2.1 bt116.2.2.1 bt116.2.2.2.1 bt116.2.2.2.2 t103 t104 t105 t108))) = some (r1, r2, r3, r4, r5, r6) := H
  have A5 := Y0.mk A50
  clear A50
  replace H := Option.bind_eq_some_iff.mp H
  obtain ⟨⟨t116, t117, t118, t119, t120⟩, A60, H⟩ := H
  replace H : (if t119 = 0 then (YD.j0 k a0 (decide (t118 < (a0.size : Int))) t117 t118 t119 t120 t103 t104 t105 t108) else (YD.j0 k a0 false t117 t118 t119 t120 t103 t104 t105 t108)) = some (r1, r2, r3, r4, r5, r6) := H
  have A6 := Y0.mk A60
  clear A60
  have HC7 := Y0.mk H
  clear H
  go_enter Tryd.func26, Tryd.ntmps26
  go_upto_region 6 with (first | ((with_reducible refine YG (N := 2) rfl ?_); (try (refine Y13 (by rfl) ?_; dsimp only)); refine YC ?hg (N := 2) ?hd (cs := #[.int .i64 0, .string (⟨#[]⟩ : ByteArray), .slice none 0 0, .slice none 0 0]) (t := 37) ?hr ?_; (case hd => rfl); (case hg => rfl); (case hr => exact Z8); intro gb101 hg w8 hbox hb; have n_ := Y2v (Yd QB hb) (hbox) ((by rw [hg]; exact (Yc QB) : w.heap.size ≤ gb101)) ((by rw [hg]; exact (Yc QB) : w.heap.size ≤ gb101)); clear HB; obtain ⟨HB, BK101, GW101, GE101⟩ := n_; clear hb hbox hg) | ((with_reducible refine YG (N := 13) rfl ?_); (try (refine Y13 (by rfl) ?_; dsimp only)); refine YC ?hg (N := 13) ?hd (cs := #[.string a0, .int .i64 0, .int .i64 0, .int .i64 0]) (t := 81) ?hr ?_; (case hd => rfl); (case hg => rfl); (case hr => exact Z8); intro gb102 hg w9 hbox hb; have n_ := Y45 (Ys (g := gb101) (o := .cells #[.int .i64 0, .string (⟨#[]⟩ : ByteArray), .slice none 0 0, .slice none 0 0] 37 (0, 0)) QQ hb) (Yd QB hb) ((by rw [hg]; exact (Yc QB) : w.heap.size ≤ gb102)) ((by rw [hg]; exact (Yc QB) : w.heap.size ≤ gb102)) ((by rw [hg]; exact Nat.ne_of_lt (YY (g := gb101) (o := .cells #[.int .i64 0, .string (⟨#[]⟩ : ByteArray), .slice none 0 0, .slice none 0 0] 37 (0, 0)) QQ) : gb101 ≠ gb102)) ((by rw [hg]; exact Nat.ne_of_gt (YY (g := gb101) (o := .cells #[.int .i64 0, .string (⟨#[]⟩ : ByteArray), .slice none 0 0, .slice none 0 0] 37 (0, 0)) QQ) : gb102 ≠ gb101)) ((⟨hbox, (by rw [hg]; exact (Yc QB))⟩ : YE w w9 gb102 a0 0 0 0)); clear BK101 HB; obtain ⟨BK101, HB, GW102, GE102, NB101_102, NB102_101, HI102⟩ := n_; clear hb hbox hg) | ((with_reducible refine Ym (f := 55) rfl ?_); refine YM (some 15) rfl rfl Tryd.func55 Z5 rfl #[.pointer (some ⟨gb102, 0, none⟩), .int .i64 0] rfl Z0 ?_; (with_reducible refine (Yl.calls k gb102 a0 0 0 0 0 t103 t104 t105 t108 t111 t112 t113 t114 w _ ?side1 ?side2 ?side3 A5.out).mono ?_); (case side1 => exact QI81_102); (case side2 => exact QB); (case side3 => exact Z2n); rintro e w10 ⟨v106, v109, rfl, ho0, ho1, hi, hb, hk⟩; refine ⟨_, rfl, ?_⟩; have n0_ := Y0.mk (Y3.blk hk (g' := gb101) (o := .cells #[.int .i64 0, .string (⟨#[]⟩ : ByteArray), .slice none 0 0, .slice none 0 0] 37 (0, 0)) QQ NB101_102.out (by simp)); have n1_ := Y0.mk (Kd.R_lower (Kd.R_newM (M := fun k_ => (w.heap.size ≤ k_)) (Kd.R_mono (ok' := fun k_ => True) ho0 (fun _ hk_ => trivial)) (Yc QB) (fun k_ h_ => h_)) (Yc QB)); have n2_ := Y0.mk (Kd.N_lower (Kd.N_mono (ok' := fun k_ => (w.heap.size ≤ k_) ∧ some k_ ≠ (v106 : Value).ownBlock ∧ k_ ≠ gb101 ∧ k_ ≠ gb102) ho1 (fun k_ hk_ => ⟨(Nat.le_trans (Yc QB) hk_.1), hk_.2, (Kd.freshB (g := gb101) (o := .cells #[.int .i64 0, .string (⟨#[]⟩ : ByteArray), .slice none 0 0, .slice none 0 0] 37 (0, 0)) QQ k_ hk_.1), (YE.fresh QI81_102 k_ hk_.1)⟩)) (Yc QB)); have n3_ := Y0.mk (hb); have n4_ := Y0.mk (hi); clear BK101 HB HI102; have BK101 := n0_; have HO107 := n1_; have HO110 := n2_; have HB := n3_; have HI102 := n4_; clear n0_ n1_ n2_ n3_ n4_; (try clear hb); (try clear hb2); (try clear hk); (try clear hi); (try clear ho0); (try clear ho1)) | ((with_reducible refine YG (N := 6) rfl ?_); (try (refine Y13 (by rfl) ?_; dsimp only)); refine YC ?hg (N := 6) ?hd (cs := #[.int .i64 0, .string (⟨#[]⟩ : ByteArray), .slice none 0 0, .slice none 0 0]) (t := 37) ?hr ?_; (case hd => rfl); (case hg => rfl); (case hr => exact Z8); intro gb115 hg w11 hbox hb; have n0_ := Y0.mk (Kd.R_below Z2k hb); have n1_ := Y0.mk (Kd.N_below (Kd.N_elderB Z2h gb115 (Nat.le_of_eq hg.symm)) hb); have n2_ := Y0.mk (Ys (g := gb101) (o := .cells #[.int .i64 0, .string (⟨#[]⟩ : ByteArray), .slice none 0 0, .slice none 0 0] 37 (0, 0)) QQ hb); have n3_ := Y0.mk (YE.below QI81_102 hb); have n4_ := Y0.mk (Yd QB hb); have n5_ := Y0.mk (hbox); have n6_ := Y0.mk ((by rw [hg]; exact (Yc QB) : w.heap.size ≤ gb115)); have n7_ := Y0.mk ((by rw [hg]; exact (Yc QB) : w.heap.size ≤ gb115)); have n8_ := Y0.mk ((by rw [hg]; exact Nat.ne_of_lt (YY (g := gb101) (o := .cells #[.int .i64 0, .string (⟨#[]⟩ : ByteArray), .slice none 0 0, .slice none 0 0] 37 (0, 0)) QQ) : gb101 ≠ gb115)); have n9_ := Y0.mk ((by rw [hg]; exact Nat.ne_of_gt (YY (g := gb101) (o := .cells #[.int .i64 0, .string (⟨#[]⟩ : ByteArray), .slice none 0 0, .slice none 0 0] 37 (0, 0)) QQ) : gb115 ≠ gb101)); have n10_ := Y0.mk ((by rw [hg]; exact Nat.ne_of_lt (YE.lt (show YE w _ gb102 t111 t112 t113 t114 from QI81_102)) : gb102 ≠ gb115)); have n11_ := Y0.mk ((by rw [hg]; exact Nat.ne_of_gt (YE.lt (show YE w _ gb102 t111 t112 t113 t114 from QI81_102)) : gb115 ≠ gb102)); clear HO107 HO110 BK101 HI102 HB; have HO107 := n0_; have HO110 := n1_; have BK101 := n2_; have HI102 := n3_; have HB := n4_; have BK115 := n5_; have GW115 := n6_; have GE115 := n7_; have NB101_115 := n8_; have NB115_101 := n9_; have NB102_115 := n10_; have NB115_102 := n11_; clear n0_ n1_ n2_ n3_ n4_ n5_ n6_ n7_ n8_ n9_ n10_ n11_ hb hbox hg; have hnb12 := NB115_101.out; have hnc12 := NB101_115.out; have hnb13 := NB115_102.out; have hnc13 := NB102_115.out; obtain ⟨hcz14_0, hcz14_1, hcz14_2, hcz14_3, hfz14_0, hfz14_1, hfz14_2, hfz14_3⟩ := YA BK115.out; obtain ⟨Ao15, co15, eo15⟩ := Kd.R_slice HO107.out; subst eo15; obtain ⟨Ao16, co16, eo16⟩ := Kd.N_slice HO110.out; subst eo16) | ((with_reducible refine Ym (f := 56) rfl ?_); refine YM (some 17) rfl rfl Tryd.func56 Z5 rfl #[.pointer (some ⟨gb102, 0, none⟩)] rfl Z0 ?_; (with_reducible refine (Y4.calls k gb102 t111 t112 t113 t114 t116 t117 t118 t119 t120 w _ ?side1 ?side2 A6.out).mono ?_); (case side1 => exact QI81_102); (case side2 => exact QB); rintro e w17 ⟨rfl, hi, hb, hk⟩; refine ⟨_, rfl, ?_⟩; have n0_ := Y0.mk (Y3.blk hk (g' := gb101) (o := .cells #[.int .i64 0, .string (⟨#[]⟩ : ByteArray), .slice none 0 0, .slice none 0 0] 37 (0, 0)) Zg NB101_102.out (by simp)); have n1_ := Y0.mk (Kd.R_mono (Kd.R_keep (YE.apart (show YE w _ gb102 t111 t112 t113 t114 from QI81_102) (by (with_reducible repeat (first | apply Kd.R_alloc | apply Kd.R_drewN | apply Kd.R_drew)); exact (Kd.R_mono (Kd.R_far (p := ⟨gb115, 3, none⟩) (Kd.R_far (p := ⟨gb115, 2, none⟩) (Kd.R_far (p := ⟨gb115, 1, none⟩) (Kd.R_far (p := ⟨gb115, 0, none⟩) (Kd.R_types HO107.out BK115.out (by decide)) (fun _ hk => hk.2) (.int .i64 t103)) (fun _ hk => hk.2) (.string t104)) (fun _ hk => hk.2) (.slice Ao15 t105.length co15)) (fun _ hk => hk.2) (.slice Ao16 t108.length co16)) (fun _ h_ => h_.1))) (by decide)) hk (fun _ h => h.2)) (fun _ h => h.1)); have n2_ := Y0.mk (Kd.N_mono (Kd.N_keep (Kd.N_mono (ok := fun k_ => ((((w.heap.size ≤ k_)) ∧ (some k_ ≠ (.slice Ao15 t105.length co15 : Value).ownBlock ∧ (k_ ≠ gb101 ∧ k_ ≠ gb102))) ∧ k_ ≠ gb115)) (by (with_reducible repeat (first | apply Kd.N_alloc | apply Kd.N_drewN | apply Kd.N_drew)); exact (Kd.N_mono (Kd.N_far (p := ⟨gb115, 3, none⟩) (Kd.N_far (p := ⟨gb115, 2, none⟩) (Kd.N_far (p := ⟨gb115, 1, none⟩) (Kd.N_far (p := ⟨gb115, 0, none⟩) (Kd.N_mono HO110.out (fun k_ hk => (⟨hk, hk.2⟩ : _ ∧ k_ ≠ gb115))) (fun _ hk => hk.2) (.int .i64 t103)) (fun _ hk => hk.2) (.string t104)) (fun _ hk => hk.2) (.slice Ao15 t105.length co15)) (fun _ hk => hk.2) (.slice Ao16 t108.length co16)) (fun _ h_ => h_.1))) (fun k_ hk_ => (⟨hk_, hk_.1.2.2.2⟩ : _ ∧ k_ ≠ gb102))) hk (fun _ h => h.2)) (fun _ h => h.1)); have n3_ := Y0.mk (Y3.blk hk (g' := gb115) (o := .cells #[.int .i64 t103, .string t104, .slice Ao15 t105.length co15, .slice Ao16 t108.length co16] 37 (0, 0)) Z2X NB115_102.out (by simp)); have n4_ := Y0.mk (hb); have n5_ := Y0.mk (hi); clear BK101 HO107 HO110 BK115 HB HI102; have BK101 := n0_; have HO107 := n1_; have HO110 := n2_; have BK115 := n3_; have HB := n4_; have HI102 := n5_; clear n0_ n1_ n2_ n3_ n4_ n5_; (try clear hb); (try clear hb2); (try clear hk); (try clear hi)))
  (try simp only [Act.put, List.setIfInBounds_toArray, List.set_cons_zero, List.set_cons_succ])
  go_cut [31] (fun v31 wc => ∃ (kq : Nat) (x31_6 : Bool), v31 = .bool x31_6 ∧ Y0 (YD.j0 kq a0 x31_6 t117 t118 t119 t120 t103 t104 t105 t108 = some (r1, r2, r3, r4, r5, r6)) ∧ Y0 (kq ≤ k) ∧ Y0 (Kd.R Kd.string 9 wc w.heap.size (fun k_ => (w.heap.size ≤ k_)) (.slice Ao15 t105.length co15) t105) ∧ Y0 (Kd.N k37 37 wc w.heap.size (fun k_ => (w.heap.size ≤ k_) ∧ some k_ ≠ ((.slice Ao15 t105.length co15) : Value).ownBlock ∧ k_ ≠ gb101 ∧ k_ ≠ gb115 ∧ k_ ≠ gb102) (.slice Ao16 t108.length co16) t108) ∧ Y0 (wc.heap[gb101]? = some (.cells #[.int .i64 0, .string (⟨#[]⟩ : ByteArray), (.slice none 0 0), (.slice none 0 0)] 37 (0, 0))) ∧ Y0 (wc.heap[gb115]? = some (.cells #[.int .i64 t103, .string t104, (.slice Ao15 t105.length co15), (.slice Ao16 t108.length co16)] 37 (0, 0))) ∧ Y0 (YE w wc gb102 t117 t118 t119 t120) ∧ Y0 (Below w.heap.size w wc))
  case first =>
   have H := HC7.out
   clear HC7
   by_cases c18 : t119 = 0
   ·rw [if_pos c18] at H
    have c18b0 : (t119 == 0) = true := beq_iff_eq.mpr c18
    have c18b1 : (t119 != 0) = false := bne_eq_false_iff_eq.mpr c18
    clear c18
    (first | rw [c18b0] | (simp only [Y15, Y16]; rw [c18b0]) | skip)
    have H' := Y0.mk H
    clear H
    obtain ⟨hcz19_0, hcz19_1, hcz19_2, hcz19_3, hfz19_0, hfz19_1, hfz19_2, hfz19_3⟩ := YA HI102.out.1
    go_wp2
    go_meet
    case rel => exact ⟨_, (decide (t118 < (a0.size : Int))), Z9, H', ⟨ZW⟩, ⟨Z15⟩, ⟨ZQ⟩, ⟨Za⟩, ⟨Z1H⟩, ⟨QI81_102⟩, ⟨QB⟩⟩
   ·rw [if_neg c18] at H
    have c18b0 : (t119 == 0) = false := beq_eq_false_iff_ne.mpr c18
    have c18b1 : (t119 != 0) = true := bne_iff_ne.mpr c18
    (first | rw [c18b0] | (simp only [Y15, Y16]; rw [c18b0]) | skip)
    have H' := Y0.mk H
    clear H
    obtain ⟨hcz20_0, hcz20_1, hcz20_2, hcz20_3, hfz20_0, hfz20_1, hfz20_2, hfz20_3⟩ := YA HI102.out.1
    go_wp2
    go_meet
    case rel => exact ⟨_, (false), Z9, H', ⟨ZW⟩, ⟨Z15⟩, ⟨ZQ⟩, ⟨Za⟩, ⟨Z1H⟩, ⟨QI81_102⟩, ⟨QB⟩⟩
  case rest =>
   clear HC7
   try clear c1
   try clear c2
   try clear c2b0
   try clear c2b1
   try clear p2
   try clear c5
   try clear c12
   try clear c13
   try clear c18
   try clear c18b0
   try clear c18b1
   try clear hcz14_0 hcz14_1 hcz14_2 hcz14_3
   try clear hcz19_0 hcz19_1 hcz19_2 hcz19_3
   try clear hcz20_0 hcz20_1 hcz20_2 hcz20_3
   try clear hcz4_0 hcz4_1 hcz4_2 hcz4_3
   try clear hfz14_0
   try clear hfz14_1
   try clear hfz14_2
   try clear hfz14_3
   try clear hfz19_0
   try clear hfz19_1
   try clear hfz19_2
   try clear hfz19_3
   try clear hfz20_0
   try clear hfz20_1
   try clear hfz20_2
   try clear hfz20_3
   try clear hfz4_0
   try clear hfz4_1
   try clear hfz4_2
   try clear hfz4_3
   obtain ⟨kq, x31_6, rfl, HA, HJ6, HO_116002, HO_116003, BK101, BK115, HI102, HB⟩ := hcut
   cases kq with
   | zero => exact absurd HA.out (by simp [YD.j0])
   | succ kj6 =>
    have H := HA.out
    clear HA
    simp only [YD.j0] at H
    by_cases c21 : x31_6 = true
    ·subst c21
     have H1 : ((Yr.f t117 t118 t119 t120 t118 2).bind fun bt121 => (if bt121.2.2.2.2.2.2.1 = 0 then (some (t103, t104, t105, t108, (a0.size : Int), 0)) else (some (0, (⟨#[]⟩ : ByteArray), ([] : List ByteArray), ([] : List (S37)), bt121.2.2.2.2.2.2.2, bt121.2.2.2.2.2.2.1)))) = some (r1, r2, r3, r4, r5, r6) := by rw [if_pos rfl] at H; exact H
     clear H
     have H := H1
     clear H1
     replace H := Option.bind_eq_some_iff.mp H
     obtain ⟨⟨t121, t122, t123, t126, t129, t130, t131, t132⟩, A220, H⟩ := H
     replace H : (if t131 = 0 then (some (t103, t104, t105, t108, (a0.size : Int), 0)) else (some (0, (⟨#[]⟩ : ByteArray), ([] : List ByteArray), ([] : List (S37)), t132, t131))) = some (r1, r2, r3, r4, r5, r6) := H
     have A22 := Y0.mk A220
     clear A220
     by_cases c23 : t131 = 0
     ·rw [if_pos c23] at H
      have c23b0 : (t131 == 0) = true := beq_iff_eq.mpr c23
      have c23b1 : (t131 != 0) = false := bne_eq_false_iff_eq.mpr c23
      clear c23
      simp only [Option.some.injEq, Prod.mk.injEq] at H
      obtain ⟨rfl, rfl, rfl, rfl, rfl, rfl⟩ := H
      obtain ⟨hcz24_0, hcz24_1, hcz24_2, hcz24_3, hfz24_0, hfz24_1, hfz24_2, hfz24_3⟩ := YA HI102.out.1
      go_wp2_with (first | ((with_reducible refine Ym (f := 57) rfl ?_); refine YM (some 37) rfl rfl Tryd.func57 Z5 rfl #[.pointer (some ⟨gb102, 0, none⟩), .int .i64 t118, .int .i64 2] rfl Z0 ?_; (with_reducible refine (Yr.calls gb102 t117 t118 t119 t120 t118 2 t121 t122 t123 t126 t129 t130 t131 t132 w _ ?side1 ?side2 A22.out).mono ?_); (case side1 => exact QI81_102); (case side2 => exact QB); rintro e w25 ⟨v124, v127, rfl, ho0, ho1, hi, hb, hk⟩; refine ⟨_, rfl, ?_⟩; have n0_ := Y0.mk (Kd.R_mono (Kd.R_told (Kd.R_oldK (YE.apart (show YE w _ gb102 t117 t118 t119 t120 from QI81_102) Zq (by decide)) hk) (Kd.R_base ho0)) (fun _ h_ => h_.1)); have n1_ := Y0.mk (Kd.N_mono (Kd.N_told (Kd.N_told (Kd.N_oldK (Kd.N_mono (ok := fun k_ => (((w.heap.size ≤ k_)) ∧ (some k_ ≠ (.slice Ao15 t105.length co15 : Value).ownBlock ∧ (k_ ≠ gb101 ∧ (k_ ≠ gb115 ∧ k_ ≠ gb102))))) ZO (fun k_ hk_ => (⟨hk_, hk_.2.2.2.2⟩ : _ ∧ k_ ≠ gb102))) hk) (Kd.R_base ho0)) (Kd.N_base ho1)) (fun _ h_ => h_.1)); have n2_ := Y0.mk (Y3.blk hk (g' := gb101) (o := .cells #[.int .i64 0, .string (⟨#[]⟩ : ByteArray), .slice none 0 0, .slice none 0 0] 37 (0, 0)) QQ NB101_102.out (by simp)); have n3_ := Y0.mk (Y3.blk hk (g' := gb115) (o := .cells #[.int .i64 t103, .string t104, .slice Ao15 t105.length co15, .slice Ao16 t108.length co16] 37 (0, 0)) QQ NB115_102.out (by simp)); have n4_ := Y0.mk (Kd.R_lower (Kd.R_new' (Kd.R_newM (M := fun k_ => (w.heap.size ≤ k_)) (Kd.R_mono (ok' := fun k_ => True) ho0 (fun _ hk_ => trivial)) (Yc QB) (fun k_ h_ => h_)) (Kd.R_lt Zq)) (Yc QB)); have n5_ := Y0.mk (Kd.N_lower (Kd.N_mono (ok' := fun k_ => (w.heap.size ≤ k_) ∧ some k_ ≠ (v124 : Value).ownBlock ∧ some k_ ≠ (.slice Ao15 t105.length co15 : Value).ownBlock ∧ some k_ ≠ (.slice Ao16 t108.length co16 : Value).ownBlock ∧ k_ ≠ gb101 ∧ k_ ≠ gb115 ∧ k_ ≠ gb102) ho1 (fun k_ hk_ => ⟨(Nat.le_trans (Yc QB) hk_.1), hk_.2, (Kd.fresh' (Kd.R_lt Zq) k_ hk_.1), (Kd.fresh' (Kd.N_lt ZO) k_ hk_.1), (Kd.freshB (g := gb101) (o := .cells #[.int .i64 0, .string (⟨#[]⟩ : ByteArray), .slice none 0 0, .slice none 0 0] 37 (0, 0)) QQ k_ hk_.1), (Kd.freshB (g := gb115) (o := .cells #[.int .i64 t103, .string t104, .slice Ao15 t105.length co15, .slice Ao16 t108.length co16] 37 (0, 0)) QQ k_ hk_.1), (YE.fresh QI81_102 k_ hk_.1)⟩)) (Yc QB)); have n6_ := Y0.mk (hb); have n7_ := Y0.mk (hi); clear HO_116002 HO_116003 BK101 BK115 HB HI102; have HO_116002 := n0_; have HO_116003 := n1_; have BK101 := n2_; have BK115 := n3_; have HO125 := n4_; have HO128 := n5_; have HB := n6_; have HI102 := n7_; clear n0_ n1_ n2_ n3_ n4_ n5_ n6_ n7_; (try clear hb); (try clear hb2); (try clear hk); (try clear hi); (try clear ho0); (try clear ho1); obtain ⟨HGz26, hgz26⟩ := HI102.out; have hcz26_0 := Y1m HGz26; have hcz26_1 := Y1n HGz26; have hcz26_2 := Y1o HGz26; have hcz26_3 := Y1p HGz26; have hfz26_0 := Y9 HGz26 0; have hfz26_1 := Y9 HGz26 1; have hfz26_2 := Y9 HGz26 2; have hfz26_3 := Y9 HGz26 3; clear HGz26 hgz26; have hnb27 := NB115_101.out; have hnc27 := NB101_115.out; have hnb28 := NB115_102.out; have hnc28 := NB102_115.out; obtain ⟨hcz29_0, hcz29_1, hcz29_2, hcz29_3, hfz29_0, hfz29_1, hfz29_2, hfz29_3⟩ := YA BK115.out; have hnb30 := NB101_102.out; have hnc30 := NB102_101.out; obtain ⟨hcz31_0, hcz31_1, hcz31_2, hcz31_3, hfz31_0, hfz31_1, hfz31_2, hfz31_3⟩ := YA BK101.out))
      refine bodyPost_ret (Y1L rfl _ _ gb101 37 #[.int .i64 t103, .string t104, .slice Ao15 t105.length co15, .slice Ao16 t108.length co16] (0, 0) _ rfl Z2X Tryd.underlying37 rfl Z5) rfl ?_
      exact ⟨_, _, Z2, by (with_reducible repeat (first | apply Kd.R_alloc | apply Kd.R_drewN | apply Kd.R_drew)); exact Kd.R_mono (Kd.R_far (p := ⟨gb101, 3, none⟩) (Kd.R_far (p := ⟨gb101, 2, none⟩) (Kd.R_far (p := ⟨gb101, 1, none⟩) (Kd.R_far (p := ⟨gb101, 0, none⟩) (Kd.R_types HO_116002.out BK101.out (by decide)) (fun _ hk => hk.2) (.int .i64 t103)) (fun _ hk => hk.2) (.string t104)) (fun _ hk => hk.2) (.slice Ao15 t105.length co15)) (fun _ hk => hk.2) (.slice Ao16 t108.length co16)) (fun _ hk => hk.1.1), by (with_reducible repeat (first | apply Kd.N_alloc | apply Kd.N_drewN | apply Kd.N_drew)); exact Kd.N_mono (Kd.N_far (p := ⟨gb101, 3, none⟩) (Kd.N_far (p := ⟨gb101, 2, none⟩) (Kd.N_far (p := ⟨gb101, 1, none⟩) (Kd.N_far (p := ⟨gb101, 0, none⟩) (Kd.N_mono HO_116003.out (fun k_ hk => (⟨hk, hk.1.1.2.2.1⟩ : _ ∧ k_ ≠ gb101))) (fun _ hk => hk.2) (.int .i64 t103)) (fun _ hk => hk.2) (.string t104)) (fun _ hk => hk.2) (.slice Ao15 t105.length co15)) (fun _ hk => hk.2) (.slice Ao16 t108.length co16)) (fun _ hk => ⟨hk.1.1.1.1, hk.1.1.1.2.1⟩), QB⟩
     ·rw [if_neg c23] at H
      have c23b0 : (t131 == 0) = false := beq_eq_false_iff_ne.mpr c23
      have c23b1 : (t131 != 0) = true := bne_iff_ne.mpr c23
      simp only [Option.some.injEq, Prod.mk.injEq] at H
      obtain ⟨rfl, rfl, rfl, rfl, rfl, rfl⟩ := H
      obtain ⟨hcz32_0, hcz32_1, hcz32_2, hcz32_3, hfz32_0, hfz32_1, hfz32_2, hfz32_3⟩ := YA HI102.out.1
      try go_wp2_with (first | ((with_reducible refine Ym (f := 57) rfl ?_); refine YM (some 37) rfl rfl Tryd.func57 Z5 rfl #[.pointer (some ⟨gb102, 0, none⟩), .int .i64 t118, .int .i64 2] rfl Z0 ?_; (with_reducible refine (Yr.calls gb102 t117 t118 t119 t120 t118 2 t121 t122 t123 t126 t129 t130 t131 t132 w _ ?side1 ?side2 A22.out).mono ?_); (case side1 => exact QI81_102); (case side2 => exact QB); rintro e w33 ⟨v124, v127, rfl, ho0, ho1, hi, hb, hk⟩; refine ⟨_, rfl, ?_⟩; have n0_ := Y0.mk (Kd.R_mono (Kd.R_told (Kd.R_oldK (YE.apart (show YE w _ gb102 t117 t118 t119 t120 from QI81_102) Zq (by decide)) hk) (Kd.R_base ho0)) (fun _ h_ => h_.1)); have n1_ := Y0.mk (Kd.N_mono (Kd.N_told (Kd.N_told (Kd.N_oldK (Kd.N_mono (ok := fun k_ => (((w.heap.size ≤ k_)) ∧ (some k_ ≠ (.slice Ao15 t105.length co15 : Value).ownBlock ∧ (k_ ≠ gb101 ∧ (k_ ≠ gb115 ∧ k_ ≠ gb102))))) ZO (fun k_ hk_ => (⟨hk_, hk_.2.2.2.2⟩ : _ ∧ k_ ≠ gb102))) hk) (Kd.R_base ho0)) (Kd.N_base ho1)) (fun _ h_ => h_.1)); have n2_ := Y0.mk (Y3.blk hk (g' := gb101) (o := .cells #[.int .i64 0, .string (⟨#[]⟩ : ByteArray), .slice none 0 0, .slice none 0 0] 37 (0, 0)) QQ NB101_102.out (by simp)); have n3_ := Y0.mk (Y3.blk hk (g' := gb115) (o := .cells #[.int .i64 t103, .string t104, .slice Ao15 t105.length co15, .slice Ao16 t108.length co16] 37 (0, 0)) QQ NB115_102.out (by simp)); have n4_ := Y0.mk (Kd.R_lower (Kd.R_new' (Kd.R_newM (M := fun k_ => (w.heap.size ≤ k_)) (Kd.R_mono (ok' := fun k_ => True) ho0 (fun _ hk_ => trivial)) (Yc QB) (fun k_ h_ => h_)) (Kd.R_lt Zq)) (Yc QB)); have n5_ := Y0.mk (Kd.N_lower (Kd.N_mono (ok' := fun k_ => (w.heap.size ≤ k_) ∧ some k_ ≠ (v124 : Value).ownBlock ∧ some k_ ≠ (.slice Ao15 t105.length co15 : Value).ownBlock ∧ some k_ ≠ (.slice Ao16 t108.length co16 : Value).ownBlock ∧ k_ ≠ gb101 ∧ k_ ≠ gb115 ∧ k_ ≠ gb102) ho1 (fun k_ hk_ => ⟨(Nat.le_trans (Yc QB) hk_.1), hk_.2, (Kd.fresh' (Kd.R_lt Zq) k_ hk_.1), (Kd.fresh' (Kd.N_lt ZO) k_ hk_.1), (Kd.freshB (g := gb101) (o := .cells #[.int .i64 0, .string (⟨#[]⟩ : ByteArray), .slice none 0 0, .slice none 0 0] 37 (0, 0)) QQ k_ hk_.1), (Kd.freshB (g := gb115) (o := .cells #[.int .i64 t103, .string t104, .slice Ao15 t105.length co15, .slice Ao16 t108.length co16] 37 (0, 0)) QQ k_ hk_.1), (YE.fresh QI81_102 k_ hk_.1)⟩)) (Yc QB)); have n6_ := Y0.mk (hb); have n7_ := Y0.mk (hi); clear HO_116002 HO_116003 BK101 BK115 HB HI102; have HO_116002 := n0_; have HO_116003 := n1_; have BK101 := n2_; have BK115 := n3_; have HO125 := n4_; have HO128 := n5_; have HB := n6_; have HI102 := n7_; clear n0_ n1_ n2_ n3_ n4_ n5_ n6_ n7_; (try clear hb); (try clear hb2); (try clear hk); (try clear hi); (try clear ho0); (try clear ho1); obtain ⟨HGz34, hgz34⟩ := HI102.out; have hcz34_0 := Y1m HGz34; have hcz34_1 := Y1n HGz34; have hcz34_2 := Y1o HGz34; have hcz34_3 := Y1p HGz34; have hfz34_0 := Y9 HGz34 0; have hfz34_1 := Y9 HGz34 1; have hfz34_2 := Y9 HGz34 2; have hfz34_3 := Y9 HGz34 3; clear HGz34 hgz34))
      have n_ := Y3I (Kd.R_drew HO_116002.out) (Kd.N_drew HO_116003.out) (Kd.R_drew HO125.out) (Kd.N_drew HO128.out) (Yg BK101.out) (Yg BK115.out) (YE.drew HI102.out) (YQ HB.out)
      clear HO_116002
      clear HO_116003
      clear HO125
      clear HO128
      clear BK101
      clear BK115
      clear HI102
      clear HB
      obtain ⟨HO_116002, HO_116003, HO125, HO128, BK101, BK115, HI102, HB⟩ := n_
      refine Y1y (n := 12) (S := fun w' => w'.cell? ⟨gb102, 0, none⟩ = some (.string t129) ∧ w'.cell? ⟨gb102, 1, none⟩ = some (.int .i64 t130) ∧ w'.cell? ⟨gb102, 2, none⟩ = some (.int .i64 t131) ∧ w'.cell? ⟨gb102, 3, none⟩ = some (.int .i64 t132)) (ds := []) Y3P Z5 rfl rfl ⟨Y1m HI102.out.1, Y1n HI102.out.1, Y1o HI102.out.1, Y1p HI102.out.1⟩ (fun hHeld => ?_); refine Y11 YD.tab9 YD.bits9 (fun HT_ HW_ => ?_)
      generalize w33.drew = w35 at HO_116002 HO_116003 HO125 HO128 BK101 BK115 HI102 HB hHeld ⊢
      refine pY 0 43 Y3Q ?_
      refine pY 1 44 Y4D ?_
      refine pY 2 45 Y4E ?_
      refine pY 3 46 Y5k ?_
      refine pY 5 48 Y4m ?_
      refine pY 6 49 Y4n ?_
      refine pY 7 50 Y4o ?_
      refine pT 4 47 Y3r ?_
      refine pT 8 51 Y31 ?_
      refine Y2B (i := 9) (N := none) Y2G rfl rfl (Y1q HT_.out Z5) (by decide) (fun K hK => ?_)
      have hs36 : w35.cell? ⟨gb101, 0, none⟩ = some (.int .i64 0) := (Y6 BK101.out 0).trans rfl
      have hfs36 := Y9 BK101.out 0
      have hns36_1 := NB115_101.out
      have hms36_1 := NB101_115.out
      have hs37 : w35.cell? ⟨gb101, 1, none⟩ = some (.string (⟨#[]⟩ : ByteArray)) := (Y6 BK101.out 1).trans rfl
      have hfs37 := Y9 BK101.out 1
      have hns37_1 := NB115_101.out
      have hms37_1 := NB101_115.out
      have hs38 : w35.cell? ⟨gb101, 2, none⟩ = some (.slice none 0 0) := (Y6 BK101.out 2).trans rfl
      have hfs38 := Y9 BK101.out 2
      have hns38_1 := NB115_101.out
      have hms38_1 := NB101_115.out
      have hs39 : w35.cell? ⟨gb101, 3, none⟩ = some (.slice none 0 0) := (Y6 BK101.out 3).trans rfl
      have hfs39 := Y9 BK101.out 3
      have hns39_1 := NB115_101.out
      have hms39_1 := NB101_115.out
      refine Y47 (w1 := ?_) (by rfl) rfl ?_ ?_
      rotate_left
      ·go_simp
       rfl
      refine hK.out _ _ ⟨((YH (p := ⟨gb101, _, none⟩) NB102_101.out _).trans (((YH (p := ⟨gb101, _, none⟩) NB102_101.out _).trans (((YH (p := ⟨gb101, _, none⟩) NB102_101.out _).trans (((YH (p := ⟨gb101, _, none⟩) NB102_101.out _).trans (hHeld.1)))))))), ((YH (p := ⟨gb101, _, none⟩) NB102_101.out _).trans (((YH (p := ⟨gb101, _, none⟩) NB102_101.out _).trans (((YH (p := ⟨gb101, _, none⟩) NB102_101.out _).trans (((YH (p := ⟨gb101, _, none⟩) NB102_101.out _).trans (hHeld.2.1)))))))), ((YH (p := ⟨gb101, _, none⟩) NB102_101.out _).trans (((YH (p := ⟨gb101, _, none⟩) NB102_101.out _).trans (((YH (p := ⟨gb101, _, none⟩) NB102_101.out _).trans (((YH (p := ⟨gb101, _, none⟩) NB102_101.out _).trans (hHeld.2.2.1)))))))), ((YH (p := ⟨gb101, _, none⟩) NB102_101.out _).trans (((YH (p := ⟨gb101, _, none⟩) NB102_101.out _).trans (((YH (p := ⟨gb101, _, none⟩) NB102_101.out _).trans (((YH (p := ⟨gb101, _, none⟩) NB102_101.out _).trans (hHeld.2.2.2))))))))⟩ (fun hHeld => ?_)
      clear hK K
      refine pY 10 3 Y2H ?_
      refine pY 11 4 Y2I ?_
      refine Y1X (Y1g HT_.out Z5) ?_
      try go_wp2
      refine bodyPost_ret (Y1L rfl _ _ gb101 37 #[.int .i64 0, .string (⟨#[]⟩ : ByteArray), .slice none 0 0, .slice none 0 0] (0, 0) _ rfl Z2w Tryd.underlying37 rfl Z5) rfl ?_
      exact Z2T
    ·replace c21 := Bool.eq_false_iff.mpr c21
     subst c21
     have H1 : (if t119 = 0 then (some (t103, t104, t105, t108, (a0.size : Int), 0)) else (some (0, (⟨#[]⟩ : ByteArray), ([] : List ByteArray), ([] : List (S37)), t120, t119))) = some (r1, r2, r3, r4, r5, r6) := by rw [if_neg (show ¬ (false = true) by decide)] at H; exact H
     clear H
     have H := H1
     clear H1
     by_cases c40 : t119 = 0
     ·rw [if_pos c40] at H
      have c40b0 : (t119 == 0) = true := beq_iff_eq.mpr c40
      have c40b1 : (t119 != 0) = false := bne_eq_false_iff_eq.mpr c40
      clear c40
      simp only [Option.some.injEq, Prod.mk.injEq] at H
      obtain ⟨rfl, rfl, rfl, rfl, rfl, rfl⟩ := H
      obtain ⟨hcz41_0, hcz41_1, hcz41_2, hcz41_3, hfz41_0, hfz41_1, hfz41_2, hfz41_3⟩ := YA HI102.out.1
      have hnb42 := NB115_101.out
      have hnc42 := NB101_115.out
      have hnb43 := NB115_102.out
      have hnc43 := NB102_115.out
      obtain ⟨hcz44_0, hcz44_1, hcz44_2, hcz44_3, hfz44_0, hfz44_1, hfz44_2, hfz44_3⟩ := YA BK115.out
      have hnb45 := NB101_102.out
      have hnc45 := NB102_101.out
      obtain ⟨hcz46_0, hcz46_1, hcz46_2, hcz46_3, hfz46_0, hfz46_1, hfz46_2, hfz46_3⟩ := YA BK101.out
      go_wp2
      refine bodyPost_ret (Y1L rfl _ _ gb101 37 #[.int .i64 t103, .string t104, .slice Ao15 t105.length co15, .slice Ao16 t108.length co16] (0, 0) _ rfl Z2X Tryd.underlying37 rfl Z5) rfl ?_
      exact ⟨_, _, Z2, by (with_reducible repeat (first | apply Kd.R_alloc | apply Kd.R_drewN | apply Kd.R_drew)); exact Kd.R_mono (Kd.R_far (p := ⟨gb101, 3, none⟩) (Kd.R_far (p := ⟨gb101, 2, none⟩) (Kd.R_far (p := ⟨gb101, 1, none⟩) (Kd.R_far (p := ⟨gb101, 0, none⟩) (Kd.R_types HO_116002.out BK101.out (by decide)) (fun _ hk => hk.2) (.int .i64 t103)) (fun _ hk => hk.2) (.string t104)) (fun _ hk => hk.2) (.slice Ao15 t105.length co15)) (fun _ hk => hk.2) (.slice Ao16 t108.length co16)) (fun _ hk => hk.1), by (with_reducible repeat (first | apply Kd.N_alloc | apply Kd.N_drewN | apply Kd.N_drew)); exact Kd.N_mono (Kd.N_far (p := ⟨gb101, 3, none⟩) (Kd.N_far (p := ⟨gb101, 2, none⟩) (Kd.N_far (p := ⟨gb101, 1, none⟩) (Kd.N_far (p := ⟨gb101, 0, none⟩) (Kd.N_mono HO_116003.out (fun k_ hk => (⟨hk, hk.2.2.1⟩ : _ ∧ k_ ≠ gb101))) (fun _ hk => hk.2) (.int .i64 t103)) (fun _ hk => hk.2) (.string t104)) (fun _ hk => hk.2) (.slice Ao15 t105.length co15)) (fun _ hk => hk.2) (.slice Ao16 t108.length co16)) (fun _ hk => ⟨hk.1.1, hk.1.2.1⟩), QB⟩
     ·rw [if_neg c40] at H
      have c40b0 : (t119 == 0) = false := beq_eq_false_iff_ne.mpr c40
      have c40b1 : (t119 != 0) = true := bne_iff_ne.mpr c40
      simp only [Option.some.injEq, Prod.mk.injEq] at H
      obtain ⟨rfl, rfl, rfl, rfl, rfl, rfl⟩ := H
      obtain ⟨hcz47_0, hcz47_1, hcz47_2, hcz47_3, hfz47_0, hfz47_1, hfz47_2, hfz47_3⟩ := YA HI102.out.1
      try go_wp2
      have n_ := Y2E (Kd.R_drew HO_116002.out) (Kd.N_drew HO_116003.out) (Yg BK101.out) (Yg BK115.out) (YE.drew HI102.out) (YQ HB.out)
      clear HO_116002
      clear HO_116003
      clear BK101
      clear BK115
      clear HI102
      clear HB
      obtain ⟨HO_116002, HO_116003, BK101, BK115, HI102, HB⟩ := n_
      refine Y1y (n := 12) (S := fun w' => w'.cell? ⟨gb102, 0, none⟩ = some (.string t117) ∧ w'.cell? ⟨gb102, 1, none⟩ = some (.int .i64 t118) ∧ w'.cell? ⟨gb102, 2, none⟩ = some (.int .i64 t119) ∧ w'.cell? ⟨gb102, 3, none⟩ = some (.int .i64 t120)) (ds := []) Y3P Z5 rfl rfl ⟨Y1m HI102.out.1, Y1n HI102.out.1, Y1o HI102.out.1, Y1p HI102.out.1⟩ (fun hHeld => ?_); refine Y11 YD.tab9 YD.bits9 (fun HT_ HW_ => ?_)
      generalize wc.drew = w48 at HO_116002 HO_116003 BK101 BK115 HI102 HB hHeld ⊢
      refine pY 0 43 Y3Q ?_
      refine pY 1 44 Y4D ?_
      refine pY 2 45 Y4E ?_
      refine pY 3 46 Y5k ?_
      refine pY 5 48 Y4m ?_
      refine pY 6 49 Y4n ?_
      refine pY 7 50 Y4o ?_
      refine pT 4 47 Y3r ?_
      refine pT 8 51 Y31 ?_
      refine Y2B (i := 9) (N := none) Y2G rfl rfl (Y1q HT_.out Z5) (by decide) (fun K hK => ?_)
      have hs49 : w48.cell? ⟨gb101, 0, none⟩ = some (.int .i64 0) := (Y6 BK101.out 0).trans rfl
      have hfs49 := Y9 BK101.out 0
      have hns49_1 := NB115_101.out
      have hms49_1 := NB101_115.out
      have hs50 : w48.cell? ⟨gb101, 1, none⟩ = some (.string (⟨#[]⟩ : ByteArray)) := (Y6 BK101.out 1).trans rfl
      have hfs50 := Y9 BK101.out 1
      have hns50_1 := NB115_101.out
      have hms50_1 := NB101_115.out
      have hs51 : w48.cell? ⟨gb101, 2, none⟩ = some (.slice none 0 0) := (Y6 BK101.out 2).trans rfl
      have hfs51 := Y9 BK101.out 2
      have hns51_1 := NB115_101.out
      have hms51_1 := NB101_115.out
      have hs52 : w48.cell? ⟨gb101, 3, none⟩ = some (.slice none 0 0) := (Y6 BK101.out 3).trans rfl
      have hfs52 := Y9 BK101.out 3
      have hns52_1 := NB115_101.out
      have hms52_1 := NB101_115.out
      refine Y47 (w1 := ?_) (by rfl) rfl ?_ ?_
      rotate_left
      ·go_simp
       rfl
      refine hK.out _ _ ⟨((YH (p := ⟨gb101, _, none⟩) NB102_101.out _).trans (((YH (p := ⟨gb101, _, none⟩) NB102_101.out _).trans (((YH (p := ⟨gb101, _, none⟩) NB102_101.out _).trans (((YH (p := ⟨gb101, _, none⟩) NB102_101.out _).trans (hHeld.1)))))))), ((YH (p := ⟨gb101, _, none⟩) NB102_101.out _).trans (((YH (p := ⟨gb101, _, none⟩) NB102_101.out _).trans (((YH (p := ⟨gb101, _, none⟩) NB102_101.out _).trans (((YH (p := ⟨gb101, _, none⟩) NB102_101.out _).trans (hHeld.2.1)))))))), ((YH (p := ⟨gb101, _, none⟩) NB102_101.out _).trans (((YH (p := ⟨gb101, _, none⟩) NB102_101.out _).trans (((YH (p := ⟨gb101, _, none⟩) NB102_101.out _).trans (((YH (p := ⟨gb101, _, none⟩) NB102_101.out _).trans (hHeld.2.2.1)))))))), ((YH (p := ⟨gb101, _, none⟩) NB102_101.out _).trans (((YH (p := ⟨gb101, _, none⟩) NB102_101.out _).trans (((YH (p := ⟨gb101, _, none⟩) NB102_101.out _).trans (((YH (p := ⟨gb101, _, none⟩) NB102_101.out _).trans (hHeld.2.2.2))))))))⟩ (fun hHeld => ?_)
      clear hK K
      refine pY 10 3 Y2H ?_
      refine pY 11 4 Y2I ?_
      refine Y1X (Y1g HT_.out Z5) ?_
      try go_wp2
      refine bodyPost_ret (Y1L rfl _ _ gb101 37 #[.int .i64 0, .string (⟨#[]⟩ : ByteArray), .slice none 0 0, .slice none 0 0] (0, 0) _ rfl Z2w Tryd.underlying37 rfl Z5) rfl ?_
      exact Z2T
mutual
def Y5.j0 : Nat → Bool → Int → ByteArray → List ByteArray → List (S37) → Int → ByteArray → List ByteArray → List (S37) → Option (Bool)
 | 0, _, _, _, _, _, _, _, _, _ => none
 | k + 1, x36, x102000, x102001, x102002, x102003, x103000, x103001, x103002, x103003 => if x36 = true then (some false) else (Y5.l0 k 0 x102000 x102001 x102002 x102003 x103000 x103001 x103002 x103003)
def Y5.l0 : Nat → Int → Int → ByteArray → List ByteArray → List (S37) → Int → ByteArray → List ByteArray → List (S37) → Option (Bool)
 | 0, _, _, _, _, _, _, _, _, _ => none
 | k + 1, x5, x102000, x102001, x102002, x102003, x103000, x103001, x103002, x103003 => if x5 < (x102002.length : Int) then (if 0 ≤ x5 then (if x5 < (x103002.length : Int) then (if (Y2D ByteArray.empty x102002 x5).toList = (Y2D ByteArray.empty x103002 x5).toList then (Y5.l0 k (wrap64 (x5 + 1)) x102000 x102001 x102002 x102003 x103000 x103001 x103002 x103003) else (some false)) else (none)) else (none)) else (Y5.l1 k 0 x102000 x102001 x102002 x102003 x103000 x103001 x103002 x103003)
def Y5.l1 : Nat → Int → Int → ByteArray → List ByteArray → List (S37) → Int → ByteArray → List ByteArray → List (S37) → Option (Bool)
 | 0, _, _, _, _, _, _, _, _, _ => none
 | k + 1, x6, x102000, x102001, x102002, x102003, x103000, x103001, x103002, x103003 => if x6 < (x102003.length : Int) then (if 0 ≤ x6 then (if x6 < (x103003.length : Int) then ((Y5.f k ((Yh x102003 x6).f0) ((Yh x102003 x6).f1) ((Yh x102003 x6).f2) ((Yh x102003 x6).f3) ((Yh x103003 x6).f0) ((Yh x103003 x6).f1) ((Yh x103003 x6).f2) ((Yh x103003 x6).f3)).bind fun t107 => (if t107 = true then (Y5.l1 k (wrap64 (x6 + 1)) x102000 x102001 x102002 x102003 x103000 x103001 x103002 x103003) else (some false))) else (none)) else (none)) else (some true)
def Y5.f : Nat → Int → ByteArray → List ByteArray → List (S37) → Int → ByteArray → List ByteArray → List (S37) → Option (Bool)
 | 0, _, _, _, _, _, _, _, _ => none
 | k + 1, a0_0, a0_1, l0_2, l0_3, a1_0, a1_1, l1_2, l1_3 => if a0_0 = a1_0 then (if a0_1.toList = a1_1.toList then (if (l0_2.length : Int) = (l1_2.length : Int) then (Y5.j0 k ((l0_3.length : Int) != (l1_3.length : Int)) a0_0 a0_1 l0_2 l0_3 a1_0 a1_1 l1_2 l1_3) else (Y5.j0 k true a0_0 a0_1 l0_2 l0_3 a1_0 a1_1 l1_2 l1_3)) else (Y5.j0 k true a0_0 a0_1 l0_2 l0_3 a1_0 a1_1 l1_2 l1_3)) else (Y5.j0 k true a0_0 a0_1 l0_2 l0_3 a1_0 a1_1 l1_2 l1_3)
end
def Y5.T6 : Bool × List (List Nat × List Nat) := (true, [([], []), ([0], [0]), ([], []), ([1, 2], [1, 2]), ([3], [3]), ([], []), ([5], [5]), ([], []), ([6, 7], [6, 7]), ([8], [8]), ([4, 9], [4, 9])])
def Y5.B6 : List Nat := [0, 1, 0, 7, 15, 0, 32, 0, 224, 480, 1023]
theorem Y5.tab6 : Y33 .any (Y3v Tryd.f28 6) = Y5.T6 := by kernel_rfl
theorem Y5.bits6 : Y1V Y5.T6.2 Y5.B6 = true := by kernel_rfl
def Y5.T11 : Bool × List (List Nat × List Nat) := (true, [([], []), ([0], [0]), ([], []), ([1, 2], [1, 2]), ([3], [3]), ([], []), ([5], [5]), ([], []), ([6, 7], [6, 7]), ([8], [8]), ([4, 9], [4, 9]), ([10], [10])])
def Y5.B11 : List Nat := [0, 1, 0, 7, 15, 0, 32, 0, 224, 480, 1023, 2047]
theorem Y5.tab11 : Y33 .any (Y3v Tryd.f28 11) = Y5.T11 := by kernel_rfl
theorem Y5.bits11 : Y1V Y5.T11.2 Y5.B11 = true := by kernel_rfl
set_option maxHeartbeats 8000000 in
set_option maxRecDepth 100000 in
theorem Y5.calls (k : Nat) : ∀ (a0_0 : Int) (a0_1 : ByteArray) (A0_2 : Option Addr) (c0_2 : Nat) (l0_2 : List ByteArray) (A0_3 : Option Addr) (c0_3 : Nat) (l0_3 : List (S37)) (a1_0 : Int) (a1_1 : ByteArray) (A1_2 : Option Addr) (c1_2 : Nat) (l1_2 : List ByteArray) (A1_3 : Option Addr) (c1_3 : Nat) (l1_3 : List (S37)) (r : Bool) (w : World) (hr0_2 : Kd.C Kd.string w A0_2 l0_2.length l0_2) (hc0_2 : l0_2.length ≤ c0_2) (hr0_3 : Kd.C k37 w A0_3 l0_3.length l0_3) (hc0_3 : l0_3.length ≤ c0_3) (hr1_2 : Kd.C Kd.string w A1_2 l1_2.length l1_2) (hc1_2 : l1_2.length ≤ c1_2) (hr1_3 : Kd.C k37 w A1_3 l1_3.length l1_3) (hc1_3 : l1_3.length ≤ c1_3) (h : Y5.f k a0_0 a0_1 l0_2 l0_3 a1_0 a1_1 l1_2 l1_3 = some r),
  Calls Tryd.prog 28 #[.agg #[.int .i64 a0_0, .string a0_1, .slice A0_2 l0_2.length c0_2, .slice A0_3 l0_3.length c0_3], .agg #[.int .i64 a1_0, .string a1_1, .slice A1_2 l1_2.length c1_2, .slice A1_3 l1_3.length c1_3]] w fun e w' => e = .returned (.bool r) ∧ Below w.heap.size w w' := by
 induction k using Nat.strongRecOn with
 | _ k ih =>
 intro a0_0 a0_1 A0_2 c0_2 l0_2 A0_3 c0_3 l0_3 a1_0 a1_1 A1_2 c1_2 l1_2 A1_3 c1_3 l1_3 r w hr0_2 hc0_2 hr0_3 hc0_3 hr1_2 hc1_2 hr1_3 hc1_3 h
 cases k with
 | zero => exact absurd h (by simp [Y5.f])
 | succ k =>
 simp only [Y5.f] at h
 have hu37 := Tryd.underlying37
 have HR0_2 := Y0.mk hr0_2
 have HC0_2 := Y0.mk hc0_2
 clear hr0_2 hc0_2
 have HR0_3 := Y0.mk hr0_3
 have HC0_3 := Y0.mk hc0_3
 clear hr0_3 hc0_3
 have HR1_2 := Y0.mk hr1_2
 have HC1_2 := Y0.mk hc1_2
 clear hr1_2 hc1_2
 have HR1_3 := Y0.mk hr1_3
 have HC1_3 := Y0.mk hc1_3
 clear hr1_3 hc1_3
 have HB := Y0.mk (Below.refl w.heap.size w)
 have H : (if a0_0 = a1_0 then (if a0_1.toList = a1_1.toList then (if (l0_2.length : Int) = (l1_2.length : Int) then (Y5.j0 k ((l0_3.length : Int) != (l1_3.length : Int)) a0_0 a0_1 l0_2 l0_3 a1_0 a1_1 l1_2 l1_3) else (Y5.j0 k true a0_0 a0_1 l0_2 l0_3 a1_0 a1_1 l1_2 l1_3)) else (Y5.j0 k true a0_0 a0_1 l0_2 l0_3 a1_0 a1_1 l1_2 l1_3)) else (Y5.j0 k true a0_0 a0_1 l0_2 l0_3 a1_0 a1_1 l1_2 l1_3)) = some r := h
 clear h
 have HC3 := Y0.mk H
 clear H
 go_enter Tryd.func28, Tryd.ntmps28
 go_upto_region 1 with (first | ((with_reducible refine YG (N := 2) rfl ?_); (try (refine Y13 (by rfl) ?_; dsimp only)); refine YC ?hg (N := 2) ?hd (cs := #[.int .i64 a0_0, .string a0_1, .slice A0_2 l0_2.length c0_2, .slice A0_3 l0_3.length c0_3]) (t := 37) ?hr ?_; (case hd => rfl); (case hg => rfl); (case hr => exact Z8); intro gb101 hg w4 hbox hb; have n_ := Y2v (Yd QB hb) (hbox) ((by rw [hg]; exact (Yc QB) : w.heap.size ≤ gb101)) ((by rw [hg]; exact (Yc QB) : w.heap.size ≤ gb101)); clear HB; obtain ⟨HB, BK101, GW101, GE101⟩ := n_; clear hb hbox hg) | ((with_reducible refine YG (N := 3) rfl ?_); (try (refine Y13 (by rfl) ?_; dsimp only)); refine YC ?hg (N := 3) ?hd (cs := #[.int .i64 a1_0, .string a1_1, .slice A1_2 l1_2.length c1_2, .slice A1_3 l1_3.length c1_3]) (t := 37) ?hr ?_; (case hd => rfl); (case hg => rfl); (case hr => exact Z8); intro gb102 hg w5 hbox hb; have n_ := Y45 (Ys (g := gb101) (o := .cells #[.int .i64 a0_0, .string a0_1, .slice A0_2 l0_2.length c0_2, .slice A0_3 l0_3.length c0_3] 37 (0, 0)) QQ hb) (Yd QB hb) (hbox) ((by rw [hg]; exact (Yc QB) : w.heap.size ≤ gb102)) ((by rw [hg]; exact (Yc QB) : w.heap.size ≤ gb102)) ((by rw [hg]; exact Nat.ne_of_lt (YY (g := gb101) (o := .cells #[.int .i64 a0_0, .string a0_1, .slice A0_2 l0_2.length c0_2, .slice A0_3 l0_3.length c0_3] 37 (0, 0)) QQ) : gb101 ≠ gb102)) ((by rw [hg]; exact Nat.ne_of_gt (YY (g := gb101) (o := .cells #[.int .i64 a0_0, .string a0_1, .slice A0_2 l0_2.length c0_2, .slice A0_3 l0_3.length c0_3] 37 (0, 0)) QQ) : gb102 ≠ gb101)); clear BK101 HB; obtain ⟨BK101, HB, BK102, GW102, GE102, NB101_102, NB102_101⟩ := n_; clear hb hbox hg))
 (try simp only [Act.put, List.setIfInBounds_toArray, List.set_cons_zero, List.set_cons_succ])
 go_cut [36] (fun v36 wc => ∃ (kq : Nat) (x36_2 : Bool), v36 = .bool x36_2 ∧ Y0 (Y5.j0 kq x36_2 a0_0 a0_1 l0_2 l0_3 a1_0 a1_1 l1_2 l1_3 = some r) ∧ Y0 (kq ≤ k) ∧ Y0 (wc.heap[gb101]? = some (.cells #[.int .i64 a0_0, .string a0_1, (.slice A0_2 l0_2.length c0_2), (.slice A0_3 l0_3.length c0_3)] 37 (0, 0))) ∧ Y0 (wc.heap[gb102]? = some (.cells #[.int .i64 a1_0, .string a1_1, (.slice A1_2 l1_2.length c1_2), (.slice A1_3 l1_3.length c1_3)] 37 (0, 0))) ∧ Y0 (Below w.heap.size w wc))
 case first =>
  have H := HC3.out
  clear HC3
  by_cases c6 : a0_0 = a1_0
  ·rw [if_pos c6] at H
   have c6b0 : (a0_0 == a1_0) = true := beq_iff_eq.mpr c6
   have c6b1 : (a0_0 != a1_0) = false := bne_eq_false_iff_eq.mpr c6
   clear c6
   (first | rw [c6b0] | (simp only [Y15, Y16]; rw [c6b0]) | skip)
   by_cases c7 : a0_1.toList = a1_1.toList
   ·rw [if_pos c7] at H
    have c7b0 : (a0_1.toList == a1_1.toList) = true := beq_iff_eq.mpr c7
    have c7b1 : (a0_1.toList != a1_1.toList) = false := bne_eq_false_iff_eq.mpr c7
    clear c7
    by_cases c8 : (l0_2.length : Int) = (l1_2.length : Int)
    ·rw [if_pos c8] at H
     have c8b0 : ((l0_2.length : Int) == (l1_2.length : Int)) = true := beq_iff_eq.mpr c8
     have c8b1 : ((l0_2.length : Int) != (l1_2.length : Int)) = false := bne_eq_false_iff_eq.mpr c8
     have c8b2 : (l0_2.length == l1_2.length) = true := by first | simpa using c8 | (simp at c8 ⊢; omega)
     clear c8
     have H' := Y0.mk H
     clear H
     have hnb9 := NB101_102.out
     have hnc9 := NB102_101.out
     obtain ⟨hcz10_0, hcz10_1, hcz10_2, hcz10_3, hfz10_0, hfz10_1, hfz10_2, hfz10_3⟩ := YA BK101.out
     obtain ⟨hcz11_0, hcz11_1, hcz11_2, hcz11_3, hfz11_0, hfz11_1, hfz11_2, hfz11_3⟩ := YA BK102.out
     go_wp2
     go_meet
     case rel => exact ⟨_, (((l0_3.length : Int) != (l1_3.length : Int))), Z9, H', ⟨ZW⟩, ⟨Za⟩, ⟨Zp⟩, ⟨QB⟩⟩
    ·rw [if_neg c8] at H
     have c8b0 : ((l0_2.length : Int) == (l1_2.length : Int)) = false := beq_eq_false_iff_ne.mpr c8
     have c8b1 : ((l0_2.length : Int) != (l1_2.length : Int)) = true := bne_iff_ne.mpr c8
     have c8b2 : (l0_2.length == l1_2.length) = false := by first | simpa using c8 | (simp at c8 ⊢; omega)
     have H' := Y0.mk H
     clear H
     have hnb12 := NB101_102.out
     have hnc12 := NB102_101.out
     obtain ⟨hcz13_0, hcz13_1, hcz13_2, hcz13_3, hfz13_0, hfz13_1, hfz13_2, hfz13_3⟩ := YA BK101.out
     obtain ⟨hcz14_0, hcz14_1, hcz14_2, hcz14_3, hfz14_0, hfz14_1, hfz14_2, hfz14_3⟩ := YA BK102.out
     go_wp2
     go_meet
     case rel => exact Z2U
   ·rw [if_neg c7] at H
    have c7b0 : (a0_1.toList == a1_1.toList) = false := beq_eq_false_iff_ne.mpr c7
    have c7b1 : (a0_1.toList != a1_1.toList) = true := bne_iff_ne.mpr c7
    have H' := Y0.mk H
    clear H
    have hnb15 := NB101_102.out
    have hnc15 := NB102_101.out
    obtain ⟨hcz16_0, hcz16_1, hcz16_2, hcz16_3, hfz16_0, hfz16_1, hfz16_2, hfz16_3⟩ := YA BK101.out
    obtain ⟨hcz17_0, hcz17_1, hcz17_2, hcz17_3, hfz17_0, hfz17_1, hfz17_2, hfz17_3⟩ := YA BK102.out
    go_wp2
    go_meet
    case rel => exact Z2U
  ·rw [if_neg c6] at H
   have c6b0 : (a0_0 == a1_0) = false := beq_eq_false_iff_ne.mpr c6
   have c6b1 : (a0_0 != a1_0) = true := bne_iff_ne.mpr c6
   (first | rw [c6b0] | (simp only [Y15, Y16]; rw [c6b0]) | skip)
   have H' := Y0.mk H
   clear H
   have hnb18 := NB101_102.out
   have hnc18 := NB102_101.out
   obtain ⟨hcz19_0, hcz19_1, hcz19_2, hcz19_3, hfz19_0, hfz19_1, hfz19_2, hfz19_3⟩ := YA BK101.out
   obtain ⟨hcz20_0, hcz20_1, hcz20_2, hcz20_3, hfz20_0, hfz20_1, hfz20_2, hfz20_3⟩ := YA BK102.out
   go_wp2
   go_meet
   case rel => exact Z2U
 case rest =>
  clear HC3
  try clear c1
  try clear c2
  try clear p2
  try clear c6
  try clear c6b0
  try clear c6b1
  try clear c7
  try clear c7b0
  try clear c7b1
  try clear c8
  try clear c8b0
  try clear c8b1
  try clear c8b2
  try clear c9
  try clear c12
  try clear c15
  try clear c18
  try clear hcz10_0 hcz10_1 hcz10_2 hcz10_3
  try clear hcz11_0 hcz11_1 hcz11_2 hcz11_3
  try clear hcz13_0 hcz13_1 hcz13_2 hcz13_3
  try clear hcz14_0 hcz14_1 hcz14_2 hcz14_3
  try clear hcz16_0 hcz16_1 hcz16_2 hcz16_3
  try clear hcz17_0 hcz17_1 hcz17_2 hcz17_3
  try clear hcz19_0 hcz19_1 hcz19_2 hcz19_3
  try clear hcz20_0 hcz20_1 hcz20_2 hcz20_3
  try clear hfz10_0
  try clear hfz10_1
  try clear hfz10_2
  try clear hfz10_3
  try clear hfz11_0
  try clear hfz11_1
  try clear hfz11_2
  try clear hfz11_3
  try clear hfz13_0
  try clear hfz13_1
  try clear hfz13_2
  try clear hfz13_3
  try clear hfz14_0
  try clear hfz14_1
  try clear hfz14_2
  try clear hfz14_3
  try clear hfz16_0
  try clear hfz16_1
  try clear hfz16_2
  try clear hfz16_3
  try clear hfz17_0
  try clear hfz17_1
  try clear hfz17_2
  try clear hfz17_3
  try clear hfz19_0
  try clear hfz19_1
  try clear hfz19_2
  try clear hfz19_3
  try clear hfz20_0
  try clear hfz20_1
  try clear hfz20_2
  try clear hfz20_3
  obtain ⟨kq, x36_2, rfl, HA, HJ2, BK101, BK102, HB⟩ := hcut
  cases kq with
  | zero => exact absurd HA.out (by simp [Y5.j0])
  | succ kj2 =>
   have H := HA.out
   clear HA
   simp only [Y5.j0] at H
   by_cases c21 : x36_2 = true
   ·subst c21
    have H1 : (some false) = some r := by rw [if_pos rfl] at H; exact H
    clear H
    have H := H1
    clear H1
    obtain rfl := Option.some.inj H
    go_wp2
    go_ret
    exact Z2O
   ·replace c21 := Bool.eq_false_iff.mpr c21
    subst c21
    have H1 : (Y5.l0 kj2 0 a0_0 a0_1 l0_2 l0_3 a1_0 a1_1 l1_2 l1_3) = some r := by rw [if_neg (show ¬ (false = true) by decide)] at H; exact H
    clear H
    have H := H1
    clear H1
    have H' := Y0.mk H
    clear H
    go_wp2
    go_loopg [5] kj2 (fun kq v5 w' => ∃ (x5_2 : Int), v5 = .int .i64 x5_2 ∧ Y0 (Y5.l0 kq x5_2 a0_0 a0_1 l0_2 l0_3 a1_0 a1_1 l1_2 l1_3 = some r) ∧ Y0 (kq ≤ kj2) ∧ Y0 (w'.heap[gb101]? = some (.cells #[.int .i64 a0_0, .string a0_1, (.slice A0_2 l0_2.length c0_2), (.slice A0_3 l0_3.length c0_3)] 37 (0, 0))) ∧ Y0 (w'.heap[gb102]? = some (.cells #[.int .i64 a1_0, .string a1_1, (.slice A1_2 l1_2.length c1_2), (.slice A1_3 l1_3.length c1_3)] 37 (0, 0))) ∧ Y0 (Below w.heap.size w w'))
    case atStart => exact ⟨(0), Z9, H', ⟨Nat.le_refl _⟩, ⟨Za⟩, ⟨Zp⟩, ⟨QB⟩⟩
    case round =>
     clear H'
     try clear c1
     try clear c2
     try clear p2
     try clear c6
     try clear c6b0
     try clear c6b1
     try clear c7
     try clear c7b0
     try clear c7b1
     try clear c8
     try clear c8b0
     try clear c8b1
     try clear c8b2
     try clear c9
     try clear c12
     try clear c15
     try clear c18
     try clear c21
     try clear hcz10_0 hcz10_1 hcz10_2 hcz10_3
     try clear hcz11_0 hcz11_1 hcz11_2 hcz11_3
     try clear hcz13_0 hcz13_1 hcz13_2 hcz13_3
     try clear hcz14_0 hcz14_1 hcz14_2 hcz14_3
     try clear hcz16_0 hcz16_1 hcz16_2 hcz16_3
     try clear hcz17_0 hcz17_1 hcz17_2 hcz17_3
     try clear hcz19_0 hcz19_1 hcz19_2 hcz19_3
     try clear hcz20_0 hcz20_1 hcz20_2 hcz20_3
     try clear hfz10_0
     try clear hfz10_1
     try clear hfz10_2
     try clear hfz10_3
     try clear hfz11_0
     try clear hfz11_1
     try clear hfz11_2
     try clear hfz11_3
     try clear hfz13_0
     try clear hfz13_1
     try clear hfz13_2
     try clear hfz13_3
     try clear hfz14_0
     try clear hfz14_1
     try clear hfz14_2
     try clear hfz14_3
     try clear hfz16_0
     try clear hfz16_1
     try clear hfz16_2
     try clear hfz16_3
     try clear hfz17_0
     try clear hfz17_1
     try clear hfz17_2
     try clear hfz17_3
     try clear hfz19_0
     try clear hfz19_1
     try clear hfz19_2
     try clear hfz19_3
     try clear hfz20_0
     try clear hfz20_1
     try clear hfz20_2
     try clear hfz20_3
     try clear p2
     obtain ⟨x5_2, rfl, HA, HK2, BK101, BK102, HB⟩ := hrel
     cases gk with
     | zero => exact absurd HA.out (by simp [Y5.l0])
     | succ k2 =>
      have H := HA.out
      clear HA
      simp only [Y5.l0] at H
      by_cases c22 : x5_2 < (l0_2.length : Int)
      ·rw [if_pos c22] at H
       have c22b0 : decide (x5_2 < (l0_2.length : Int)) = true := decide_eq_true c22
       clear c22
       by_cases c23 : 0 ≤ x5_2
       ·rw [if_pos c23] at H
        have c23b0 : decide (0 ≤ x5_2) = true := decide_eq_true c23
        clear c23
        by_cases c24 : x5_2 < (l1_2.length : Int)
        ·rw [if_pos c24] at H
         have c24b0 : decide (x5_2 < (l1_2.length : Int)) = true := decide_eq_true c24
         clear c24
         by_cases c25 : (Y2D ByteArray.empty l0_2 x5_2).toList = (Y2D ByteArray.empty l1_2 x5_2).toList
         ·rw [if_pos c25] at H
          have c25b0 : ((Y2D ByteArray.empty l0_2 x5_2).toList == (Y2D ByteArray.empty l1_2 x5_2).toList) = true := beq_iff_eq.mpr c25
          have c25b1 : ((Y2D ByteArray.empty l0_2 x5_2).toList != (Y2D ByteArray.empty l1_2 x5_2).toList) = false := bne_eq_false_iff_eq.mpr c25
          clear c25
          have H' := Y0.mk H
          clear H
          have hnb26 := NB101_102.out
          have hnc26 := NB102_101.out
          obtain ⟨hcz27_0, hcz27_1, hcz27_2, hcz27_3, hfz27_0, hfz27_1, hfz27_2, hfz27_3⟩ := YA BK101.out
          try go_wp2
          have n_ := Y2h (Yg BK101.out) (Yg BK102.out) (YQ HB.out)
          clear BK101
          clear BK102
          clear HB
          obtain ⟨BK101, BK102, HB⟩ := n_
          have p103 : 0 ≤ (x5_2 : Int) := of_decide_eq_true Z6
          have q103 : x5_2 < (l0_2.length : Int) := of_decide_eq_true Z6
          obtain ⟨ad103, e103, hx103_0⟩ := Kd.at_string HR0_2.out x5_2 p103 q103
          have hw103_0 := hx103_0
          cases e103
          replace hx103_0 := Y14 HB.out hx103_0
          replace p103 := eq_true p103
          replace q103 := eq_true q103
          have p104 : 0 ≤ (x5_2 : Int) := of_decide_eq_true Z6
          have q104 : x5_2 < (l1_2.length : Int) := of_decide_eq_true Z6
          obtain ⟨ad104, e104, hx104_0⟩ := Kd.at_string HR1_2.out x5_2 p104 q104
          have hw104_0 := hx104_0
          cases e104
          replace hx104_0 := Y14 HB.out hx104_0
          replace p104 := eq_true p104
          replace q104 := eq_true q104
          refine Y1y (n := 11) (S := fun w' => w'.cell? ⟨gb101, 0, none⟩ = some (.int .i64 a0_0) ∧ w'.cell? ⟨gb101, 1, none⟩ = some (.string a0_1) ∧ w'.cell? ⟨gb101, 2, none⟩ = some (.slice (some ad103) l0_2.length c0_2) ∧ w'.cell? ⟨gb101, 3, none⟩ = some (.slice A0_3 l0_3.length c0_3) ∧ w'.cell? ⟨gb102, 0, none⟩ = some (.int .i64 a1_0) ∧ w'.cell? ⟨gb102, 1, none⟩ = some (.string a1_1) ∧ w'.cell? ⟨gb102, 2, none⟩ = some (.slice (some ad104) l1_2.length c1_2) ∧ w'.cell? ⟨gb102, 3, none⟩ = some (.slice A1_3 l1_3.length c1_3) ∧ w'.cell? (ad103.add (x5_2).toNat) = some (.string (Y2D ByteArray.empty l0_2 x5_2)) ∧ w'.cell? (ad104.add (x5_2).toNat) = some (.string (Y2D ByteArray.empty l1_2 x5_2))) (ds := []) bz11_0 Z5 rfl rfl ⟨(Y6 BK101.out 0).trans rfl, (Y6 BK101.out 1).trans rfl, (Y6 BK101.out 2).trans rfl, (Y6 BK101.out 3).trans rfl, (Y6 BK102.out 0).trans rfl, (Y6 BK102.out 1).trans rfl, (Y6 BK102.out 2).trans rfl, (Y6 BK102.out 3).trans rfl, ((HB.out.cell (World.block_lt_of_cell? w _ hw103_0)).trans hw103_0), ((HB.out.cell (World.block_lt_of_cell? w _ hw104_0)).trans hw104_0)⟩ (fun hHeld => ?_); refine Y11 Y5.tab6 Y5.bits6 (fun HT_ HW_ => ?_)
          generalize wr.drew = w28 at BK101 BK102 HB hx103_0 hx104_0 hHeld ⊢
          refine pY 0 44 bz11_1 ?_
          refine pY 2 46 bz11_5 ?_
          refine pY 5 49 bz11_25 ?_
          refine pY 7 51 bz11_a5 ?_
          refine pT 1 45 bz11_a7 ?_
          refine pY 3 47 bz11_af ?_
          refine pT 4 48 bz11_bf ?_
          refine pT 6 50 bz11_ff ?_
          refine pY 8 52 Y5h ?_
          refine pT 9 53 Y5i ?_
          refine pY 10 54 Y5j ?_
          refine Y1X (Y1g HT_.out Z5) ?_
          try go_wp2
          go_roundg k2
          case measure => have := HJ2.out; have := HK2.out; omega
          case rel => exact ⟨(wrap64 (x5_2 + 1)), Z9, H', ⟨by have := HJ2.out; have := HK2.out; omega⟩, ⟨Za⟩, ⟨Zp⟩, ⟨QB⟩⟩
         ·rw [if_neg c25] at H
          have c25b0 : ((Y2D ByteArray.empty l0_2 x5_2).toList == (Y2D ByteArray.empty l1_2 x5_2).toList) = false := beq_eq_false_iff_ne.mpr c25
          have c25b1 : ((Y2D ByteArray.empty l0_2 x5_2).toList != (Y2D ByteArray.empty l1_2 x5_2).toList) = true := bne_iff_ne.mpr c25
          obtain rfl := Option.some.inj H
          have hnb29 := NB101_102.out
          have hnc29 := NB102_101.out
          obtain ⟨hcz30_0, hcz30_1, hcz30_2, hcz30_3, hfz30_0, hfz30_1, hfz30_2, hfz30_3⟩ := YA BK101.out
          try go_wp2
          have n_ := Y2h (Yg BK101.out) (Yg BK102.out) (YQ HB.out)
          clear BK101
          clear BK102
          clear HB
          obtain ⟨BK101, BK102, HB⟩ := n_
          have p103 : 0 ≤ (x5_2 : Int) := of_decide_eq_true Z6
          have q103 : x5_2 < (l0_2.length : Int) := of_decide_eq_true Z6
          obtain ⟨ad103, e103, hx103_0⟩ := Kd.at_string HR0_2.out x5_2 p103 q103
          have hw103_0 := hx103_0
          cases e103
          replace hx103_0 := Y14 HB.out hx103_0
          replace p103 := eq_true p103
          replace q103 := eq_true q103
          have p104 : 0 ≤ (x5_2 : Int) := of_decide_eq_true Z6
          have q104 : x5_2 < (l1_2.length : Int) := of_decide_eq_true Z6
          obtain ⟨ad104, e104, hx104_0⟩ := Kd.at_string HR1_2.out x5_2 p104 q104
          have hw104_0 := hx104_0
          cases e104
          replace hx104_0 := Y14 HB.out hx104_0
          replace p104 := eq_true p104
          replace q104 := eq_true q104
          refine Y1y (n := 11) (S := fun w' => w'.cell? ⟨gb101, 0, none⟩ = some (.int .i64 a0_0) ∧ w'.cell? ⟨gb101, 1, none⟩ = some (.string a0_1) ∧ w'.cell? ⟨gb101, 2, none⟩ = some (.slice (some ad103) l0_2.length c0_2) ∧ w'.cell? ⟨gb101, 3, none⟩ = some (.slice A0_3 l0_3.length c0_3) ∧ w'.cell? ⟨gb102, 0, none⟩ = some (.int .i64 a1_0) ∧ w'.cell? ⟨gb102, 1, none⟩ = some (.string a1_1) ∧ w'.cell? ⟨gb102, 2, none⟩ = some (.slice (some ad104) l1_2.length c1_2) ∧ w'.cell? ⟨gb102, 3, none⟩ = some (.slice A1_3 l1_3.length c1_3) ∧ w'.cell? (ad103.add (x5_2).toNat) = some (.string (Y2D ByteArray.empty l0_2 x5_2)) ∧ w'.cell? (ad104.add (x5_2).toNat) = some (.string (Y2D ByteArray.empty l1_2 x5_2))) (ds := []) bz11_0 Z5 rfl rfl ⟨(Y6 BK101.out 0).trans rfl, (Y6 BK101.out 1).trans rfl, (Y6 BK101.out 2).trans rfl, (Y6 BK101.out 3).trans rfl, (Y6 BK102.out 0).trans rfl, (Y6 BK102.out 1).trans rfl, (Y6 BK102.out 2).trans rfl, (Y6 BK102.out 3).trans rfl, ((HB.out.cell (World.block_lt_of_cell? w _ hw103_0)).trans hw103_0), ((HB.out.cell (World.block_lt_of_cell? w _ hw104_0)).trans hw104_0)⟩ (fun hHeld => ?_); refine Y11 Y5.tab6 Y5.bits6 (fun HT_ HW_ => ?_)
          generalize wr.drew = w31 at BK101 BK102 HB hx103_0 hx104_0 hHeld ⊢
          refine pY 0 44 bz11_1 ?_
          refine pY 2 46 bz11_5 ?_
          refine pY 5 49 bz11_25 ?_
          refine pY 7 51 bz11_a5 ?_
          refine pT 1 45 bz11_a7 ?_
          refine pY 3 47 bz11_af ?_
          refine pT 4 48 bz11_bf ?_
          refine pT 6 50 bz11_ff ?_
          refine pY 8 52 Y5h ?_
          refine pT 9 53 Y5i ?_
          refine pY 10 54 Y5j ?_
          refine Y1X (Y1g HT_.out Z5) ?_
          try go_wp2
          go_ret
          exact Z2O
        ·rw [if_neg c24] at H
         exact ZK
       ·rw [if_neg c23] at H
        exact ZK
      ·rw [if_neg c22] at H
       have c22b0 : decide (x5_2 < (l0_2.length : Int)) = false := decide_eq_false c22
       clear c22
       have H' := Y0.mk H
       clear H
       have hnb32 := NB101_102.out
       have hnc32 := NB102_101.out
       obtain ⟨hcz33_0, hcz33_1, hcz33_2, hcz33_3, hfz33_0, hfz33_1, hfz33_2, hfz33_3⟩ := YA BK101.out
       go_wp2
       go_loopg [6] k2 (fun kq v6 w' => ∃ (x6_3 : Int), v6 = .int .i64 x6_3 ∧ Y0 (Y5.l1 kq x6_3 a0_0 a0_1 l0_2 l0_3 a1_0 a1_1 l1_2 l1_3 = some r) ∧ Y0 (kq ≤ k2) ∧ Y0 (w'.heap[gb101]? = some (.cells #[.int .i64 a0_0, .string a0_1, (.slice A0_2 l0_2.length c0_2), (.slice A0_3 l0_3.length c0_3)] 37 (0, 0))) ∧ Y0 (w'.heap[gb102]? = some (.cells #[.int .i64 a1_0, .string a1_1, (.slice A1_2 l1_2.length c1_2), (.slice A1_3 l1_3.length c1_3)] 37 (0, 0))) ∧ Y0 (Below w.heap.size w w'))
       case atStart => exact ⟨(0), Z9, H', ⟨Nat.le_refl _⟩, ⟨Za⟩, ⟨Zp⟩, ⟨QB⟩⟩
       case round =>
        clear H'
        try clear c1
        try clear p1
        try clear q1
        try clear hx1
        try clear c2
        try clear p2
        try clear c3
        try clear c6
        try clear c6b0
        try clear c6b1
        try clear p6
        try clear c7
        try clear c7b0
        try clear c7b1
        try clear c8
        try clear c8b0
        try clear c8b1
        try clear c8b2
        try clear c9
        try clear p10
        try clear q10
        try clear hx10
        try clear c12
        try clear c15
        try clear c18
        try clear c21
        try clear c22
        try clear c22b0
        try clear c23
        try clear c23b0
        try clear c24
        try clear c24b0
        try clear c25
        try clear c25b0
        try clear c25b1
        try clear c26
        try clear c29
        try clear c32
        try clear hcz10_0 hcz10_1 hcz10_2 hcz10_3
        try clear hcz11_0 hcz11_1 hcz11_2 hcz11_3
        try clear hcz13_0 hcz13_1 hcz13_2 hcz13_3
        try clear hcz14_0 hcz14_1 hcz14_2 hcz14_3
        try clear hcz16_0 hcz16_1 hcz16_2 hcz16_3
        try clear hcz17_0 hcz17_1 hcz17_2 hcz17_3
        try clear hcz19_0 hcz19_1 hcz19_2 hcz19_3
        try clear hcz20_0 hcz20_1 hcz20_2 hcz20_3
        try clear hcz27_0 hcz27_1 hcz27_2 hcz27_3
        try clear hcz30_0 hcz30_1 hcz30_2 hcz30_3
        try clear hcz33_0 hcz33_1 hcz33_2 hcz33_3
        try clear hfz10_0
        try clear hfz10_1
        try clear hfz10_2
        try clear hfz10_3
        try clear hfz11_0
        try clear hfz11_1
        try clear hfz11_2
        try clear hfz11_3
        try clear hfz13_0
        try clear hfz13_1
        try clear hfz13_2
        try clear hfz13_3
        try clear hfz14_0
        try clear hfz14_1
        try clear hfz14_2
        try clear hfz14_3
        try clear hfz16_0
        try clear hfz16_1
        try clear hfz16_2
        try clear hfz16_3
        try clear hfz17_0
        try clear hfz17_1
        try clear hfz17_2
        try clear hfz17_3
        try clear hfz19_0
        try clear hfz19_1
        try clear hfz19_2
        try clear hfz19_3
        try clear hfz20_0
        try clear hfz20_1
        try clear hfz20_2
        try clear hfz20_3
        try clear hfz27_0
        try clear hfz27_1
        try clear hfz27_2
        try clear hfz27_3
        try clear hfz30_0
        try clear hfz30_1
        try clear hfz30_2
        try clear hfz30_3
        try clear hfz33_0
        try clear hfz33_1
        try clear hfz33_2
        try clear hfz33_3
        try clear hx103_0
        try clear hx104_0
        try clear p103
        try clear p104
        try clear p2
        try clear q103
        try clear q104
        obtain ⟨x6_3, rfl, HA, HK3, BK101, BK102, HB⟩ := hrel
        cases gk with
        | zero => exact absurd HA.out (by simp [Y5.l1])
        | succ k3 =>
         have H := HA.out
         clear HA
         simp only [Y5.l1] at H
         by_cases c34 : x6_3 < (l0_3.length : Int)
         ·rw [if_pos c34] at H
          have c34b0 : decide (x6_3 < (l0_3.length : Int)) = true := decide_eq_true c34
          clear c34
          by_cases c35 : 0 ≤ x6_3
          ·rw [if_pos c35] at H
           have c35b0 : decide (0 ≤ x6_3) = true := decide_eq_true c35
           clear c35
           by_cases c36 : x6_3 < (l1_3.length : Int)
           ·rw [if_pos c36] at H
            have c36b0 : decide (x6_3 < (l1_3.length : Int)) = true := decide_eq_true c36
            clear c36
            replace H := Option.bind_eq_some_iff.mp H
            obtain ⟨t107, A370, H⟩ := H
            replace H : (if t107 = true then (Y5.l1 k3 (wrap64 (x6_3 + 1)) a0_0 a0_1 l0_2 l0_3 a1_0 a1_1 l1_2 l1_3) else (some false)) = some r := H
            have A37 := Y0.mk A370
            clear A370
            by_cases c38 : t107 = true
            ·subst c38
             have H1 : (Y5.l1 k3 (wrap64 (x6_3 + 1)) a0_0 a0_1 l0_2 l0_3 a1_0 a1_1 l1_2 l1_3) = some r := by rw [if_pos rfl] at H; exact H
             clear H
             have H := H1
             clear H1
             have H' := Y0.mk H
             clear H
             have hnb39 := NB101_102.out
             have hnc39 := NB102_101.out
             obtain ⟨hcz40_0, hcz40_1, hcz40_2, hcz40_3, hfz40_0, hfz40_1, hfz40_2, hfz40_3⟩ := YA BK101.out
             try go_wp2
             have n_ := Y2h (Yg BK101.out) (Yg BK102.out) (YQ HB.out)
             clear BK101
             clear BK102
             clear HB
             obtain ⟨BK101, BK102, HB⟩ := n_
             have p105 : 0 ≤ (x6_3 : Int) := of_decide_eq_true Z6
             have q105 : x6_3 < (l0_3.length : Int) := of_decide_eq_true Z6
             obtain ⟨ad105, A105_2, c105_2, A105_3, c105_3, e105, hx105_0, hx105_1, hx105_2, hx105_3, hl105_2, hi105_2, hl105_3, hi105_3⟩ := Y26 HR0_3.out x6_3 p105 q105
             have hw105_3 := hx105_3
             have hw105_2 := hx105_2
             have hw105_1 := hx105_1
             have hw105_0 := hx105_0
             cases e105
             replace hx105_0 := Y14 HB.out hx105_0
             replace hx105_1 := Y14 HB.out hx105_1
             replace hx105_2 := Y14 HB.out hx105_2
             replace hx105_3 := Y14 HB.out hx105_3
             have HR105_2 := Y0.mk hi105_2
             have HC105_2 := Y0.mk hl105_2
             clear hi105_2 hl105_2
             have HR105_3 := Y0.mk hi105_3
             have HC105_3 := Y0.mk hl105_3
             clear hi105_3 hl105_3
             replace p105 := eq_true p105
             replace q105 := eq_true q105
             have p106 : 0 ≤ (x6_3 : Int) := of_decide_eq_true Z6
             have q106 : x6_3 < (l1_3.length : Int) := of_decide_eq_true Z6
             obtain ⟨ad106, A106_2, c106_2, A106_3, c106_3, e106, hx106_0, hx106_1, hx106_2, hx106_3, hl106_2, hi106_2, hl106_3, hi106_3⟩ := Y26 HR1_3.out x6_3 p106 q106
             have hw106_3 := hx106_3
             have hw106_2 := hx106_2
             have hw106_1 := hx106_1
             have hw106_0 := hx106_0
             cases e106
             replace hx106_0 := Y14 HB.out hx106_0
             replace hx106_1 := Y14 HB.out hx106_1
             replace hx106_2 := Y14 HB.out hx106_2
             replace hx106_3 := Y14 HB.out hx106_3
             have HR106_2 := Y0.mk hi106_2
             have HC106_2 := Y0.mk hl106_2
             clear hi106_2 hl106_2
             have HR106_3 := Y0.mk hi106_3
             have HC106_3 := Y0.mk hl106_3
             clear hi106_3 hl106_3
             replace p106 := eq_true p106
             replace q106 := eq_true q106
             refine Y1y (n := 12) (S := fun w' => w'.cell? ⟨gb101, 0, none⟩ = some (.int .i64 a0_0) ∧ w'.cell? ⟨gb101, 1, none⟩ = some (.string a0_1) ∧ w'.cell? ⟨gb101, 2, none⟩ = some (.slice A0_2 l0_2.length c0_2) ∧ w'.cell? ⟨gb101, 3, none⟩ = some (.slice (some ad105) l0_3.length c0_3) ∧ w'.cell? ⟨gb102, 0, none⟩ = some (.int .i64 a1_0) ∧ w'.cell? ⟨gb102, 1, none⟩ = some (.string a1_1) ∧ w'.cell? ⟨gb102, 2, none⟩ = some (.slice A1_2 l1_2.length c1_2) ∧ w'.cell? ⟨gb102, 3, none⟩ = some (.slice (some ad106) l1_3.length c1_3) ∧ w'.cell? (ad105.add ((x6_3).toNat * 4)) = some (.int .i64 ((Yh l0_3 x6_3).f0)) ∧ w'.cell? ⟨(ad105.add ((x6_3).toNat * 4)).block, (ad105.add ((x6_3).toNat * 4)).off + 1, none⟩ = some (.string ((Yh l0_3 x6_3).f1)) ∧ w'.cell? ⟨(ad105.add ((x6_3).toNat * 4)).block, (ad105.add ((x6_3).toNat * 4)).off + 2, none⟩ = some (.slice A105_2 ((Yh l0_3 x6_3).f2).length c105_2) ∧ w'.cell? ⟨(ad105.add ((x6_3).toNat * 4)).block, (ad105.add ((x6_3).toNat * 4)).off + 3, none⟩ = some (.slice A105_3 ((Yh l0_3 x6_3).f3).length c105_3) ∧ w'.cell? (ad106.add ((x6_3).toNat * 4)) = some (.int .i64 ((Yh l1_3 x6_3).f0)) ∧ w'.cell? ⟨(ad106.add ((x6_3).toNat * 4)).block, (ad106.add ((x6_3).toNat * 4)).off + 1, none⟩ = some (.string ((Yh l1_3 x6_3).f1)) ∧ w'.cell? ⟨(ad106.add ((x6_3).toNat * 4)).block, (ad106.add ((x6_3).toNat * 4)).off + 2, none⟩ = some (.slice A106_2 ((Yh l1_3 x6_3).f2).length c106_2) ∧ w'.cell? ⟨(ad106.add ((x6_3).toNat * 4)).block, (ad106.add ((x6_3).toNat * 4)).off + 3, none⟩ = some (.slice A106_3 ((Yh l1_3 x6_3).f3).length c106_3)) (ds := []) Y3P Z5 rfl rfl ⟨(Y6 BK101.out 0).trans rfl, (Y6 BK101.out 1).trans rfl, (Y6 BK101.out 2).trans rfl, (Y6 BK101.out 3).trans rfl, (Y6 BK102.out 0).trans rfl, (Y6 BK102.out 1).trans rfl, (Y6 BK102.out 2).trans rfl, (Y6 BK102.out 3).trans rfl, ((HB.out.cell (World.block_lt_of_cell? w _ hw105_0)).trans hw105_0), ((HB.out.cell (World.block_lt_of_cell? w _ hw105_1)).trans hw105_1), ((HB.out.cell (World.block_lt_of_cell? w _ hw105_2)).trans hw105_2), ((HB.out.cell (World.block_lt_of_cell? w _ hw105_3)).trans hw105_3), ((HB.out.cell (World.block_lt_of_cell? w _ hw106_0)).trans hw106_0), ((HB.out.cell (World.block_lt_of_cell? w _ hw106_1)).trans hw106_1), ((HB.out.cell (World.block_lt_of_cell? w _ hw106_2)).trans hw106_2), ((HB.out.cell (World.block_lt_of_cell? w _ hw106_3)).trans hw106_3)⟩ (fun hHeld => ?_); refine Y11 Y5.tab11 Y5.bits11 (fun HT_ HW_ => ?_)
             generalize wr.drew = w41 at BK101 BK102 HB HR105_2 HR105_3 HR106_2 HR106_3 hx105_0 hx105_1 hx105_2 hx105_3 hx106_0 hx106_1 hx106_2 hx106_3 hHeld ⊢
             refine pY 0 62 Y3Q ?_
             refine pY 2 64 bz12_5 ?_
             refine pY 5 67 bz12_25 ?_
             refine pY 7 69 bz12_a5 ?_
             refine pT 1 63 bz12_a7 ?_
             refine pY 3 65 bz12_af ?_
             refine pT 4 66 bz12_bf ?_
             refine pT 6 68 Y3r ?_
             refine pY 8 70 Y31 ?_
             refine pT 9 71 Y2G ?_
             refine Y2B (i := 10) (N := some 72) Y2H rfl rfl (Y1q HT_.out Z5) (by decide) (fun K hK => ?_)
             refine Y27 Tryd.func28 Z5 rfl #[.agg #[.int .i64 ((Yh l0_3 x6_3).f0), .string ((Yh l0_3 x6_3).f1), .slice A105_2 ((Yh l0_3 x6_3).f2).length c105_2, .slice A105_3 ((Yh l0_3 x6_3).f3).length c105_3], .agg #[.int .i64 ((Yh l1_3 x6_3).f0), .string ((Yh l1_3 x6_3).f1), .slice A106_2 ((Yh l1_3 x6_3).f2).length c106_2, .slice A106_3 ((Yh l1_3 x6_3).f3).length c106_3]] (by rfl) rfl rfl Z0 ?_
             with_reducible refine (ih k3 Z2e ((Yh l0_3 x6_3).f0) ((Yh l0_3 x6_3).f1) _ _ ((Yh l0_3 x6_3).f2) _ _ ((Yh l0_3 x6_3).f3) ((Yh l1_3 x6_3).f0) ((Yh l1_3 x6_3).f1) _ _ ((Yh l1_3 x6_3).f2) _ _ ((Yh l1_3 x6_3).f3) true _ ?side1 ?side2 ?side3 ?side4 ?side5 ?side6 ?side7 ?side8 A37.out).mono ?_
             (case side1 => exact Z24)
             (case side2 => exact HC105_2.out)
             (case side3 => exact Z25)
             (case side4 => exact HC105_3.out)
             (case side5 => exact Z1L)
             (case side6 => exact HC106_2.out)
             (case side7 => exact Z1M)
             (case side8 => exact HC106_3.out)
             rintro e w42 ⟨rfl, hb⟩
             refine ⟨_, rfl, ?_⟩
             have n_ := Y2h (Ys (g := gb101) (o := .cells #[.int .i64 a0_0, .string a0_1, .slice A0_2 l0_2.length c0_2, .slice (some ad105) l0_3.length c0_3] 37 (0, 0)) QQ hb) (Ys (g := gb102) (o := .cells #[.int .i64 a1_0, .string a1_1, .slice A1_2 l1_2.length c1_2, .slice (some ad106) l1_3.length c1_3] 37 (0, 0)) QQ hb) (Yd QB hb)
             clear BK101
             clear BK102
             clear HB
             obtain ⟨BK101, BK102, HB⟩ := n_
             (try clear hb)
             (try clear hb2)
             (try clear hk)
             (try clear hi)
             refine hK.out _ _ ⟨(Y6 BK101.out 0).trans rfl, (Y6 BK101.out 1).trans rfl, (Y6 BK101.out 2).trans rfl, (Y6 BK101.out 3).trans rfl, (Y6 BK102.out 0).trans rfl, (Y6 BK102.out 1).trans rfl, (Y6 BK102.out 2).trans rfl, (Y6 BK102.out 3).trans rfl, ((HB.out.cell (World.block_lt_of_cell? w _ hw105_0)).trans hw105_0), ((HB.out.cell (World.block_lt_of_cell? w _ hw105_1)).trans hw105_1), ((HB.out.cell (World.block_lt_of_cell? w _ hw105_2)).trans hw105_2), ((HB.out.cell (World.block_lt_of_cell? w _ hw105_3)).trans hw105_3), ((HB.out.cell (World.block_lt_of_cell? w _ hw106_0)).trans hw106_0), ((HB.out.cell (World.block_lt_of_cell? w _ hw106_1)).trans hw106_1), ((HB.out.cell (World.block_lt_of_cell? w _ hw106_2)).trans hw106_2), ((HB.out.cell (World.block_lt_of_cell? w _ hw106_3)).trans hw106_3)⟩ (fun hHeld => ?_)
             clear hK K
             refine Y1P (a' := ?_) ?_ ?_
             rotate_left
             ·show Act.put _ (some 72) _ = _
              simp only [Act.put, List.setIfInBounds_toArray, List.set_cons_zero, List.set_cons_succ, Y15, Y16]
              rfl
             refine pY 11 73 Y2I ?_
             refine Y1X (Y1g HT_.out Z5) ?_
             try go_wp2
             go_roundg k3
             case measure => have := HJ2.out; have := HK2.out; have := HK3.out; omega
             case rel => exact ⟨(wrap64 (x6_3 + 1)), Z9, H', ⟨Z2e⟩, ⟨Za⟩, ⟨Zp⟩, ⟨QB⟩⟩
            ·replace c38 := Bool.eq_false_iff.mpr c38
             subst c38
             have H1 : (some false) = some r := by rw [if_neg (show ¬ (false = true) by decide)] at H; exact H
             clear H
             have H := H1
             clear H1
             obtain rfl := Option.some.inj H
             have hnb43 := NB101_102.out
             have hnc43 := NB102_101.out
             obtain ⟨hcz44_0, hcz44_1, hcz44_2, hcz44_3, hfz44_0, hfz44_1, hfz44_2, hfz44_3⟩ := YA BK101.out
             try go_wp2
             have n_ := Y2h (Yg BK101.out) (Yg BK102.out) (YQ HB.out)
             clear BK101
             clear BK102
             clear HB
             obtain ⟨BK101, BK102, HB⟩ := n_
             have p105 : 0 ≤ (x6_3 : Int) := of_decide_eq_true Z6
             have q105 : x6_3 < (l0_3.length : Int) := of_decide_eq_true Z6
             obtain ⟨ad105, A105_2, c105_2, A105_3, c105_3, e105, hx105_0, hx105_1, hx105_2, hx105_3, hl105_2, hi105_2, hl105_3, hi105_3⟩ := Y26 HR0_3.out x6_3 p105 q105
             have hw105_3 := hx105_3
             have hw105_2 := hx105_2
             have hw105_1 := hx105_1
             have hw105_0 := hx105_0
             cases e105
             replace hx105_0 := Y14 HB.out hx105_0
             replace hx105_1 := Y14 HB.out hx105_1
             replace hx105_2 := Y14 HB.out hx105_2
             replace hx105_3 := Y14 HB.out hx105_3
             have HR105_2 := Y0.mk hi105_2
             have HC105_2 := Y0.mk hl105_2
             clear hi105_2 hl105_2
             have HR105_3 := Y0.mk hi105_3
             have HC105_3 := Y0.mk hl105_3
             clear hi105_3 hl105_3
             replace p105 := eq_true p105
             replace q105 := eq_true q105
             have p106 : 0 ≤ (x6_3 : Int) := of_decide_eq_true Z6
             have q106 : x6_3 < (l1_3.length : Int) := of_decide_eq_true Z6
             obtain ⟨ad106, A106_2, c106_2, A106_3, c106_3, e106, hx106_0, hx106_1, hx106_2, hx106_3, hl106_2, hi106_2, hl106_3, hi106_3⟩ := Y26 HR1_3.out x6_3 p106 q106
             have hw106_3 := hx106_3
             have hw106_2 := hx106_2
             have hw106_1 := hx106_1
             have hw106_0 := hx106_0
             cases e106
             replace hx106_0 := Y14 HB.out hx106_0
             replace hx106_1 := Y14 HB.out hx106_1
             replace hx106_2 := Y14 HB.out hx106_2
             replace hx106_3 := Y14 HB.out hx106_3
             have HR106_2 := Y0.mk hi106_2
             have HC106_2 := Y0.mk hl106_2
             clear hi106_2 hl106_2
             have HR106_3 := Y0.mk hi106_3
             have HC106_3 := Y0.mk hl106_3
             clear hi106_3 hl106_3
             replace p106 := eq_true p106
             replace q106 := eq_true q106
             refine Y1y (n := 12) (S := fun w' => w'.cell? ⟨gb101, 0, none⟩ = some (.int .i64 a0_0) ∧ w'.cell? ⟨gb101, 1, none⟩ = some (.string a0_1) ∧ w'.cell? ⟨gb101, 2, none⟩ = some (.slice A0_2 l0_2.length c0_2) ∧ w'.cell? ⟨gb101, 3, none⟩ = some (.slice (some ad105) l0_3.length c0_3) ∧ w'.cell? ⟨gb102, 0, none⟩ = some (.int .i64 a1_0) ∧ w'.cell? ⟨gb102, 1, none⟩ = some (.string a1_1) ∧ w'.cell? ⟨gb102, 2, none⟩ = some (.slice A1_2 l1_2.length c1_2) ∧ w'.cell? ⟨gb102, 3, none⟩ = some (.slice (some ad106) l1_3.length c1_3) ∧ w'.cell? (ad105.add ((x6_3).toNat * 4)) = some (.int .i64 ((Yh l0_3 x6_3).f0)) ∧ w'.cell? ⟨(ad105.add ((x6_3).toNat * 4)).block, (ad105.add ((x6_3).toNat * 4)).off + 1, none⟩ = some (.string ((Yh l0_3 x6_3).f1)) ∧ w'.cell? ⟨(ad105.add ((x6_3).toNat * 4)).block, (ad105.add ((x6_3).toNat * 4)).off + 2, none⟩ = some (.slice A105_2 ((Yh l0_3 x6_3).f2).length c105_2) ∧ w'.cell? ⟨(ad105.add ((x6_3).toNat * 4)).block, (ad105.add ((x6_3).toNat * 4)).off + 3, none⟩ = some (.slice A105_3 ((Yh l0_3 x6_3).f3).length c105_3) ∧ w'.cell? (ad106.add ((x6_3).toNat * 4)) = some (.int .i64 ((Yh l1_3 x6_3).f0)) ∧ w'.cell? ⟨(ad106.add ((x6_3).toNat * 4)).block, (ad106.add ((x6_3).toNat * 4)).off + 1, none⟩ = some (.string ((Yh l1_3 x6_3).f1)) ∧ w'.cell? ⟨(ad106.add ((x6_3).toNat * 4)).block, (ad106.add ((x6_3).toNat * 4)).off + 2, none⟩ = some (.slice A106_2 ((Yh l1_3 x6_3).f2).length c106_2) ∧ w'.cell? ⟨(ad106.add ((x6_3).toNat * 4)).block, (ad106.add ((x6_3).toNat * 4)).off + 3, none⟩ = some (.slice A106_3 ((Yh l1_3 x6_3).f3).length c106_3)) (ds := []) Y3P Z5 rfl rfl ⟨(Y6 BK101.out 0).trans rfl, (Y6 BK101.out 1).trans rfl, (Y6 BK101.out 2).trans rfl, (Y6 BK101.out 3).trans rfl, (Y6 BK102.out 0).trans rfl, (Y6 BK102.out 1).trans rfl, (Y6 BK102.out 2).trans rfl, (Y6 BK102.out 3).trans rfl, ((HB.out.cell (World.block_lt_of_cell? w _ hw105_0)).trans hw105_0), ((HB.out.cell (World.block_lt_of_cell? w _ hw105_1)).trans hw105_1), ((HB.out.cell (World.block_lt_of_cell? w _ hw105_2)).trans hw105_2), ((HB.out.cell (World.block_lt_of_cell? w _ hw105_3)).trans hw105_3), ((HB.out.cell (World.block_lt_of_cell? w _ hw106_0)).trans hw106_0), ((HB.out.cell (World.block_lt_of_cell? w _ hw106_1)).trans hw106_1), ((HB.out.cell (World.block_lt_of_cell? w _ hw106_2)).trans hw106_2), ((HB.out.cell (World.block_lt_of_cell? w _ hw106_3)).trans hw106_3)⟩ (fun hHeld => ?_); refine Y11 Y5.tab11 Y5.bits11 (fun HT_ HW_ => ?_)
             generalize wr.drew = w45 at BK101 BK102 HB HR105_2 HR105_3 HR106_2 HR106_3 hx105_0 hx105_1 hx105_2 hx105_3 hx106_0 hx106_1 hx106_2 hx106_3 hHeld ⊢
             refine pY 0 62 Y3Q ?_
             refine pY 2 64 bz12_5 ?_
             refine pY 5 67 bz12_25 ?_
             refine pY 7 69 bz12_a5 ?_
             refine pT 1 63 bz12_a7 ?_
             refine pY 3 65 bz12_af ?_
             refine pT 4 66 bz12_bf ?_
             refine pT 6 68 Y3r ?_
             refine pY 8 70 Y31 ?_
             refine pT 9 71 Y2G ?_
             refine Y2B (i := 10) (N := some 72) Y2H rfl rfl (Y1q HT_.out Z5) (by decide) (fun K hK => ?_)
             refine Y27 Tryd.func28 Z5 rfl #[.agg #[.int .i64 ((Yh l0_3 x6_3).f0), .string ((Yh l0_3 x6_3).f1), .slice A105_2 ((Yh l0_3 x6_3).f2).length c105_2, .slice A105_3 ((Yh l0_3 x6_3).f3).length c105_3], .agg #[.int .i64 ((Yh l1_3 x6_3).f0), .string ((Yh l1_3 x6_3).f1), .slice A106_2 ((Yh l1_3 x6_3).f2).length c106_2, .slice A106_3 ((Yh l1_3 x6_3).f3).length c106_3]] (by rfl) rfl rfl Z0 ?_
             with_reducible refine (ih k3 Z2e ((Yh l0_3 x6_3).f0) ((Yh l0_3 x6_3).f1) _ _ ((Yh l0_3 x6_3).f2) _ _ ((Yh l0_3 x6_3).f3) ((Yh l1_3 x6_3).f0) ((Yh l1_3 x6_3).f1) _ _ ((Yh l1_3 x6_3).f2) _ _ ((Yh l1_3 x6_3).f3) false _ ?side1 ?side2 ?side3 ?side4 ?side5 ?side6 ?side7 ?side8 A37.out).mono ?_
             (case side1 => exact Z24)
             (case side2 => exact HC105_2.out)
             (case side3 => exact Z25)
             (case side4 => exact HC105_3.out)
             (case side5 => exact Z1L)
             (case side6 => exact HC106_2.out)
             (case side7 => exact Z1M)
             (case side8 => exact HC106_3.out)
             rintro e w46 ⟨rfl, hb⟩
             refine ⟨_, rfl, ?_⟩
             have n_ := Y2h (Ys (g := gb101) (o := .cells #[.int .i64 a0_0, .string a0_1, .slice A0_2 l0_2.length c0_2, .slice (some ad105) l0_3.length c0_3] 37 (0, 0)) QQ hb) (Ys (g := gb102) (o := .cells #[.int .i64 a1_0, .string a1_1, .slice A1_2 l1_2.length c1_2, .slice (some ad106) l1_3.length c1_3] 37 (0, 0)) QQ hb) (Yd QB hb)
             clear BK101
             clear BK102
             clear HB
             obtain ⟨BK101, BK102, HB⟩ := n_
             (try clear hb)
             (try clear hb2)
             (try clear hk)
             (try clear hi)
             refine hK.out _ _ ⟨(Y6 BK101.out 0).trans rfl, (Y6 BK101.out 1).trans rfl, (Y6 BK101.out 2).trans rfl, (Y6 BK101.out 3).trans rfl, (Y6 BK102.out 0).trans rfl, (Y6 BK102.out 1).trans rfl, (Y6 BK102.out 2).trans rfl, (Y6 BK102.out 3).trans rfl, ((HB.out.cell (World.block_lt_of_cell? w _ hw105_0)).trans hw105_0), ((HB.out.cell (World.block_lt_of_cell? w _ hw105_1)).trans hw105_1), ((HB.out.cell (World.block_lt_of_cell? w _ hw105_2)).trans hw105_2), ((HB.out.cell (World.block_lt_of_cell? w _ hw105_3)).trans hw105_3), ((HB.out.cell (World.block_lt_of_cell? w _ hw106_0)).trans hw106_0), ((HB.out.cell (World.block_lt_of_cell? w _ hw106_1)).trans hw106_1), ((HB.out.cell (World.block_lt_of_cell? w _ hw106_2)).trans hw106_2), ((HB.out.cell (World.block_lt_of_cell? w _ hw106_3)).trans hw106_3)⟩ (fun hHeld => ?_)
             clear hK K
             refine Y1P (a' := ?_) ?_ ?_
             rotate_left
             ·show Act.put _ (some 72) _ = _
              simp only [Act.put, List.setIfInBounds_toArray, List.set_cons_zero, List.set_cons_succ, Y15, Y16]
              rfl
             refine pY 11 73 Y2I ?_
             refine Y1X (Y1g HT_.out Z5) ?_
             try go_wp2
             go_ret
             exact Z2O
           ·rw [if_neg c36] at H
            exact ZK
          ·rw [if_neg c35] at H
           exact ZK
         ·rw [if_neg c34] at H
          have c34b0 : decide (x6_3 < (l0_3.length : Int)) = false := decide_eq_false c34
          clear c34
          obtain rfl := Option.some.inj H
          have hnb47 := NB101_102.out
          have hnc47 := NB102_101.out
          obtain ⟨hcz48_0, hcz48_1, hcz48_2, hcz48_3, hfz48_0, hfz48_1, hfz48_2, hfz48_3⟩ := YA BK101.out
          go_wp2
          go_ret
          exact Z2O
def triviumlaw12_QueryPaths.f (k : Nat) (a0 : ByteArray) : Option (Bool) := if (a0.size : Int) > 700 then (some true) else ((YJ.f k a0).bind fun bt101 => ((YD.f k a0).bind fun bt112 => ((YO.f k bt101.1 bt101.2.1 bt101.2.2.1 bt101.2.2.2.1 bt112.1 bt112.2.1 bt112.2.2.1 bt112.2.2.2.1).bind fun t123 => (if (t123 == true) = true then ((Y5.f k bt101.1 bt101.2.1 bt101.2.2.1 bt101.2.2.2.1 bt112.1 bt112.2.1 bt112.2.2.1 bt112.2.2.2.1).bind fun t124 => (if t124 = true then (if bt101.2.2.2.2.1 = bt112.2.2.2.2.1 then (if bt101.2.2.2.2.2 = bt112.2.2.2.2.2 then ((YR.f k).bind fun t125 => (some t125)) else (some false)) else (some false)) else (some false))) else (some false)))))
set_option maxHeartbeats 8000000 in
set_option maxRecDepth 100000 in
theorem triviumlaw12_QueryPaths.calls (k : Nat) (a0 : ByteArray) (r : Bool) (w : World) (hT : Tabs w) (h : triviumlaw12_QueryPaths.f k a0 = some r) :
  Calls Tryd.prog 10 #[.string a0] w fun e w' => e = .returned (.bool r) ∧ Below w.heap.size w w' := by
 have HT := Y0.mk hT
 clear hT
 have hu37 := Tryd.underlying37
 have HB := Y0.mk (Below.refl w.heap.size w)
 have H : (if (a0.size : Int) > 700 then (some true) else ((YJ.f k a0).bind fun bt101 => ((YD.f k a0).bind fun bt112 => ((YO.f k bt101.1 bt101.2.1 bt101.2.2.1 bt101.2.2.2.1 bt112.1 bt112.2.1 bt112.2.2.1 bt112.2.2.2.1).bind fun t123 => (if (t123 == true) = true then ((Y5.f k bt101.1 bt101.2.1 bt101.2.2.1 bt101.2.2.2.1 bt112.1 bt112.2.1 bt112.2.2.1 bt112.2.2.2.1).bind fun t124 => (if t124 = true then (if bt101.2.2.2.2.1 = bt112.2.2.2.2.1 then (if bt101.2.2.2.2.2 = bt112.2.2.2.2.2 then ((YR.f k).bind fun t125 => (some t125)) else (some false)) else (some false)) else (some false))) else (some false)))))) = some r := h
 clear h
 by_cases c2 : (a0.size : Int) > 700
 ·rw [if_pos c2] at H
  have c2b0 : decide (700 < (a0.size : Int)) = true := decide_eq_true c2
  have c2b1 : decide (700 < a0.size) = true := decide_eq_true (by omega)
  clear c2
  obtain rfl := Option.some.inj H
  go_enter Tryd.func10, Tryd.ntmps10
  go_wp2
  go_ret
  exact Z2O
 ·rw [if_neg c2] at H
  have c2b0 : decide (700 < (a0.size : Int)) = false := decide_eq_false c2
  have c2b1 : decide (700 < a0.size) = false := decide_eq_false (by omega)
  clear c2
  replace H := Option.bind_eq_some_iff.mp H
  obtain ⟨⟨t101, t102, t103, t106, t109, t110⟩, A30, H⟩ := H
  replace H : ((YD.f k a0).bind fun bt112 => ((YO.f k t101 t102 t103 t106 bt112.1 bt112.2.1 bt112.2.2.1 bt112.2.2.2.1).bind fun t123 => (if (t123 == true) = true then ((Y5.f k t101 t102 t103 t106 bt112.1 bt112.2.1 bt112.2.2.1 bt112.2.2.2.1).bind fun t124 => (if t124 = true then (if t109 = bt112.2.2.2.2.1 then (if t110 = bt112.2.2.2.2.2 then ((YR.f k).bind fun t125 => (some t125)) else (some false)) else (some false)) else (some false))) else (some false)))) = some r := H
  have A3 := Y0.mk A30
  clear A30
  replace H := Option.bind_eq_some_iff.mp H
  obtain ⟨⟨t112, t113, t114, t117, t120, t121⟩, A40, H⟩ := H
  replace H : ((YO.f k t101 t102 t103 t106 t112 t113 t114 t117).bind fun t123 => (if (t123 == true) = true then ((Y5.f k t101 t102 t103 t106 t112 t113 t114 t117).bind fun t124 => (if t124 = true then (if t109 = t120 then (if t110 = t121 then ((YR.f k).bind fun t125 => (some t125)) else (some false)) else (some false)) else (some false))) else (some false))) = some r := H
  have A4 := Y0.mk A40
  clear A40
  replace H := Option.bind_eq_some_iff.mp H
  obtain ⟨t123, A50, H⟩ := H
  replace H : (if (t123 == true) = true then ((Y5.f k t101 t102 t103 t106 t112 t113 t114 t117).bind fun t124 => (if t124 = true then (if t109 = t120 then (if t110 = t121 then ((YR.f k).bind fun t125 => (some t125)) else (some false)) else (some false)) else (some false))) else (some false)) = some r := H
  have A5 := Y0.mk A50
  clear A50
  by_cases c6 : (t123 == true) = true
  ·rw [if_pos c6] at H
   have c6b0 : (t123 == true) = true := c6
   (try (have c6b1 : ((t123 = true)) = True := eq_true (by simpa using c6)))
   (try (have c6b2 : decide (t123 = true) = true := by simpa using c6))
   (try (have c6b3 : (t123 == true) = true := by simpa using c6))
   clear c6
   replace H := Option.bind_eq_some_iff.mp H
   obtain ⟨t124, A70, H⟩ := H
   replace H : (if t124 = true then (if t109 = t120 then (if t110 = t121 then ((YR.f k).bind fun t125 => (some t125)) else (some false)) else (some false)) else (some false)) = some r := H
   have A7 := Y0.mk A70
   clear A70
   by_cases c8 : t124 = true
   ·subst c8
    have H1 : (if t109 = t120 then (if t110 = t121 then ((YR.f k).bind fun t125 => (some t125)) else (some false)) else (some false)) = some r := by rw [if_pos rfl] at H; exact H
    clear H
    have H := H1
    clear H1
    by_cases c9 : t109 = t120
    ·rw [if_pos c9] at H
     have c9b0 : (t109 == t120) = true := beq_iff_eq.mpr c9
     have c9b1 : (t109 != t120) = false := bne_eq_false_iff_eq.mpr c9
     clear c9
     by_cases c10 : t110 = t121
     ·rw [if_pos c10] at H
      have c10b0 : (t110 == t121) = true := beq_iff_eq.mpr c10
      have c10b1 : (t110 != t121) = false := bne_eq_false_iff_eq.mpr c10
      clear c10
      replace H := Option.bind_eq_some_iff.mp H
      obtain ⟨t125, A110, H⟩ := H
      replace H : (some t125) = some r := H
      have A11 := Y0.mk A110
      clear A110
      obtain rfl := Option.some.inj H
      go_enter Tryd.func10, Tryd.ntmps10
      go_wp2_with (first | ((with_reducible refine Ym (f := 25) rfl ?_); refine YM (some 14) rfl rfl Tryd.func25 Z5 rfl #[.string a0] rfl Z0 ?_; (with_reducible refine (YJ.calls k a0 t101 t102 t103 t106 t109 t110 _ ?side1 A3.out).mono ?_); (case side1 => exact Zk); rintro e w12 ⟨v104, v107, rfl, ho0, ho1, hb⟩; refine ⟨_, rfl, ?_⟩; have n_ := Y2h (Kd.R_lower (Kd.R_mono (ok' := fun k_ => True) ho0 (fun _ hk_ => trivial)) (Yc QB)) (Kd.N_lower (Kd.N_mono (ok' := fun k_ => some k_ ≠ (v104 : Value).ownBlock) ho1 (fun k_ hk_ => hk_.2)) (Yc QB)) (Yd QB hb); clear HB; obtain ⟨HO105, HO108, HB⟩ := n_; (try clear hb); (try clear hb2); (try clear hk); (try clear hi); (try clear ho0); (try clear ho1)) | ((with_reducible refine YG (N := 3) rfl ?_); refine YC ?hg (N := 3) ?hd (cs := #[.int .i64 0, .string (⟨#[]⟩ : ByteArray), .slice none 0 0, .slice none 0 0]) (t := 37) ?hr ?_; (case hd => rfl); (case hg => rfl); (case hr => exact Z8); intro gb111 hg w13 hbox hb; have n_ := Y2E (Kd.R_below Zd hb) (Kd.N_below (Kd.N_elderB Zc gb111 (Nat.le_of_eq hg.symm)) hb) (Yd QB hb) (hbox) ((by rw [hg]; exact (Yc QB) : w.heap.size ≤ gb111)) ((by rw [hg]; exact (Yc QB) : w.heap.size ≤ gb111)); clear HO105 HO108 HB; obtain ⟨HO105, HO108, HB, BK111, GW111, GE111⟩ := n_; clear hb hbox hg; obtain ⟨hcz14_0, hcz14_1, hcz14_2, hcz14_3, hfz14_0, hfz14_1, hfz14_2, hfz14_3⟩ := YA BK111.out; obtain ⟨Ao15, co15, eo15⟩ := Kd.R_slice HO105.out; subst eo15; obtain ⟨Ao16, co16, eo16⟩ := Kd.N_slice HO108.out; subst eo16) | ((with_reducible refine Ym (f := 26) rfl ?_); refine YM (some 20) rfl rfl Tryd.func26 Z5 rfl #[.string a0] rfl Z0 ?_; (with_reducible refine (YD.calls k a0 t112 t113 t114 t117 t120 t121 _ ?side1 A4.out).mono ?_); (case side1 => exact Z3); rintro e w17 ⟨v115, v118, rfl, ho0, ho1, hb⟩; refine ⟨_, rfl, ?_⟩; have n0_ := Y0.mk (Kd.R_elder' Zx (Kd.R_base ho0) hb); have n1_ := Y0.mk (Kd.N_mono (Kd.N_told (Kd.N_told (Kd.N_old Z17 hb) (Kd.R_base ho0)) (Kd.N_base ho1)) (fun _ h_ => h_.1)); have n2_ := Y0.mk (Kd.R_lower (Kd.R_new' (Kd.R_mono (ok' := fun k_ => True) ho0 (fun _ hk_ => trivial)) (Kd.R_lt Zx)) (Yc QB)); have n3_ := Y0.mk (Kd.N_lower (Kd.N_mono (ok' := fun k_ => some k_ ≠ (v115 : Value).ownBlock ∧ some k_ ≠ (.slice Ao15 t103.length co15 : Value).ownBlock ∧ some k_ ≠ (.slice Ao16 t106.length co16 : Value).ownBlock ∧ k_ ≠ gb111) ho1 (fun k_ hk_ => ⟨hk_.2, (Kd.fresh' (Kd.R_lt Zx) k_ hk_.1), (Kd.fresh' (Kd.N_lt Z17) k_ hk_.1), (Kd.freshB (g := gb111) (o := .cells #[.int .i64 t101, .string t102, .slice Ao15 t103.length co15, .slice Ao16 t106.length co16] 37 (0, 0)) Z2Y k_ hk_.1)⟩)) (Yc QB)); have n4_ := Y0.mk (Ys (g := gb111) (o := .cells #[.int .i64 t101, .string t102, .slice Ao15 t103.length co15, .slice Ao16 t106.length co16] 37 (0, 0)) Z2Y hb); have n5_ := Y0.mk (Yd QB hb); clear HO105 HO108 BK111 HB; have HO105 := n0_; have HO108 := n1_; have HO116 := n2_; have HO119 := n3_; have BK111 := n4_; have HB := n5_; clear n0_ n1_ n2_ n3_ n4_ n5_; (try clear hb); (try clear hb2); (try clear hk); (try clear hi); (try clear ho0); (try clear ho1)) | ((with_reducible refine YG (N := 6) rfl ?_); refine YC ?hg (N := 6) ?hd (cs := #[.int .i64 0, .string (⟨#[]⟩ : ByteArray), .slice none 0 0, .slice none 0 0]) (t := 37) ?hr ?_; (case hd => rfl); (case hg => rfl); (case hr => exact Z8); intro gb122 hg w18 hbox hb; have n0_ := Y0.mk (Kd.R_below Zd hb); have n1_ := Y0.mk (Kd.N_below (Kd.N_elderB Zc gb122 (Nat.le_of_eq hg.symm)) hb); have n2_ := Y0.mk (Kd.R_below ZE hb); have n3_ := Y0.mk (Kd.N_below (Kd.N_elderB ZD gb122 (Nat.le_of_eq hg.symm)) hb); have n4_ := Y0.mk (Ys (g := gb111) (o := .cells #[.int .i64 t101, .string t102, .slice Ao15 t103.length co15, .slice Ao16 t106.length co16] 37 (0, 0)) QQ hb); have n5_ := Y0.mk (Yd QB hb); have n6_ := Y0.mk (hbox); have n7_ := Y0.mk ((by rw [hg]; exact (Yc QB) : w.heap.size ≤ gb122)); have n8_ := Y0.mk ((by rw [hg]; exact (Yc QB) : w.heap.size ≤ gb122)); have n9_ := Y0.mk ((by rw [hg]; exact Nat.ne_of_lt (YY (g := gb111) (o := .cells #[.int .i64 t101, .string t102, .slice Ao15 t103.length co15, .slice Ao16 t106.length co16] 37 (0, 0)) QQ) : gb111 ≠ gb122)); have n10_ := Y0.mk ((by rw [hg]; exact Nat.ne_of_gt (YY (g := gb111) (o := .cells #[.int .i64 t101, .string t102, .slice Ao15 t103.length co15, .slice Ao16 t106.length co16] 37 (0, 0)) QQ) : gb122 ≠ gb111)); clear HO105 HO108 HO116 HO119 BK111 HB; have HO105 := n0_; have HO108 := n1_; have HO116 := n2_; have HO119 := n3_; have BK111 := n4_; have HB := n5_; have BK122 := n6_; have GW122 := n7_; have GE122 := n8_; have NB111_122 := n9_; have NB122_111 := n10_; clear n0_ n1_ n2_ n3_ n4_ n5_ n6_ n7_ n8_ n9_ n10_ hb hbox hg; have hnb19 := NB122_111.out; have hnc19 := NB111_122.out; obtain ⟨hcz20_0, hcz20_1, hcz20_2, hcz20_3, hfz20_0, hfz20_1, hfz20_2, hfz20_3⟩ := YA BK122.out; obtain ⟨Ao21, co21, eo21⟩ := Kd.R_slice HO116.out; subst eo21; obtain ⟨Ao22, co22, eo22⟩ := Kd.N_slice HO119.out; subst eo22; obtain ⟨hcz23_0, hcz23_1, hcz23_2, hcz23_3, hfz23_0, hfz23_1, hfz23_2, hfz23_3⟩ := YA BK111.out) | ((with_reducible refine Ym (f := 30) rfl ?_); refine YM (some 26) rfl rfl Tryd.func30 Z5 rfl #[.agg #[.int .i64 t101, .string t102, .slice Ao15 t103.length co15, .slice Ao16 t106.length co16], .agg #[.int .i64 t112, .string t113, .slice Ao21 t114.length co21, .slice Ao22 t117.length co22]] rfl Z0 ?_; (with_reducible refine (YO.calls k t101 t102 _ _ t103 _ _ t106 t112 t113 _ _ t114 _ _ t117 t123 _ ?side1 ?side2 ?side3 ?side4 ?side5 ?side6 ?side7 ?side8 A5.out).mono ?_); (case side1 => refine (Kd.R_reads' (e := 9) (base := w.heap.size) (ok := fun k_ => (True ∧ some k_ ≠ (.slice Ao21 t114.length co21 : Value).ownBlock)) (n := t103.length) (c := co15) ?_).2.2; exact Z1u); (case side2 => exact Z1Q); (case side3 => refine (Kd.N_reads' (e := 37) (base := w.heap.size) (ok := fun k_ => ((((some k_ ≠ (.slice Ao15 t103.length co15 : Value).ownBlock ∧ k_ ≠ gb111) ∧ some k_ ≠ (.slice Ao21 t114.length co21 : Value).ownBlock) ∧ some k_ ≠ (.slice Ao22 t117.length co22 : Value).ownBlock) ∧ k_ ≠ gb122)) (n := t106.length) (c := co16) ?_).2.2; exact Z1d); (case side4 => exact Z1P); (case side5 => refine (Kd.R_reads' (e := 9) (base := w.heap.size) (ok := fun k_ => (True ∧ some k_ ≠ (.slice Ao15 t103.length co15 : Value).ownBlock)) (n := t114.length) (c := co21) ?_).2.2; exact Z1z); (case side6 => exact Z1Z); (case side7 => refine (Kd.N_reads' (e := 37) (base := w.heap.size) (ok := fun k_ => ((some k_ ≠ (.slice Ao21 t114.length co21 : Value).ownBlock ∧ (some k_ ≠ (.slice Ao15 t103.length co15 : Value).ownBlock ∧ (some k_ ≠ (.slice Ao16 t106.length co16 : Value).ownBlock ∧ k_ ≠ gb111))) ∧ k_ ≠ gb122)) (n := t117.length) (c := co22) ?_).2.2; exact Z1i); (case side8 => exact Z1Y); rintro e w24 ⟨rfl, hb⟩; refine ⟨_, rfl, ?_⟩; have n0_ := Y0.mk (Kd.R_below Z1u hb); have n1_ := Y0.mk (Kd.N_below Z1d hb); have n2_ := Y0.mk (Kd.R_below Z1z hb); have n3_ := Y0.mk (Kd.N_below Z1i hb); have n4_ := Y0.mk (Ys (g := gb111) (o := .cells #[.int .i64 t101, .string t102, .slice Ao15 t103.length co15, .slice Ao16 t106.length co16] 37 (0, 0)) Zb hb); have n5_ := Y0.mk (Ys (g := gb122) (o := .cells #[.int .i64 t112, .string t113, .slice Ao21 t114.length co21, .slice Ao22 t117.length co22] 37 (0, 0)) (by (with_reducible repeat (first | refine Yj ?_ _ | refine Yg ?_ | refine Ye ?_ _)); exact YF (cs := #[.int .i64 t112, .string t113, .slice Ao21 t114.length co21, .slice none 0 0]) Z2B 3 _ rfl) hb); have n6_ := Y0.mk (Yd QB hb); clear HO105 HO108 HO116 HO119 BK111 BK122 HB; have HO105 := n0_; have HO108 := n1_; have HO116 := n2_; have HO119 := n3_; have BK111 := n4_; have BK122 := n5_; have HB := n6_; clear n0_ n1_ n2_ n3_ n4_ n5_ n6_; (try clear hb); (try clear hb2); (try clear hk); (try clear hi); obtain ⟨hcz25_0, hcz25_1, hcz25_2, hcz25_3, hfz25_0, hfz25_1, hfz25_2, hfz25_3⟩ := YA BK111.out; obtain ⟨hcz26_0, hcz26_1, hcz26_2, hcz26_3, hfz26_0, hfz26_1, hfz26_2, hfz26_3⟩ := YA BK122.out) | (go_at_call 28; (with_reducible refine (Y5.calls k t101 t102 _ _ t103 _ _ t106 t112 t113 _ _ t114 _ _ t117 true _ ?side1 ?side2 ?side3 ?side4 ?side5 ?side6 ?side7 ?side8 A7.out).mono ?_); (case side1 => exact ZS); (case side2 => exact Z1Q); (case side3 => exact ZR); (case side4 => exact Z1P); (case side5 => exact Z1r); (case side6 => exact Z1Z); (case side7 => exact Z1q); (case side8 => exact Z1Y); rintro e w27 ⟨rfl, hb⟩; have n_ := Y45 (Kd.R_below Zd hb) (Kd.N_below Zc hb) (Kd.R_below ZE hb) (Kd.N_below ZD hb) (Ys (g := gb111) (o := .cells #[.int .i64 t101, .string t102, .slice Ao15 t103.length co15, .slice Ao16 t106.length co16] 37 (0, 0)) QQ hb) (Ys (g := gb122) (o := .cells #[.int .i64 t112, .string t113, .slice Ao21 t114.length co21, .slice Ao22 t117.length co22] 37 (0, 0)) QQ hb) (Yd QB hb); clear HO105 HO108 HO116 HO119 BK111 BK122 HB; obtain ⟨HO105, HO108, HO116, HO119, BK111, BK122, HB⟩ := n_; (try clear hb); (try clear hb2); (try clear hk); (try clear hi)) | (go_at_call 27; (with_reducible refine (YR.calls k  t125 _ ?side1 A11.out).mono ?_); (case side1 => exact Z3); rintro e w28 ⟨rfl, hb⟩; have n_ := Y45 (Kd.R_below Zd hb) (Kd.N_below Zc hb) (Kd.R_below ZE hb) (Kd.N_below ZD hb) (Ys (g := gb111) (o := .cells #[.int .i64 t101, .string t102, .slice Ao15 t103.length co15, .slice Ao16 t106.length co16] 37 (0, 0)) QQ hb) (Ys (g := gb122) (o := .cells #[.int .i64 t112, .string t113, .slice Ao21 t114.length co21, .slice Ao22 t117.length co22] 37 (0, 0)) QQ hb) (Yd QB hb); clear HO105 HO108 HO116 HO119 BK111 BK122 HB; obtain ⟨HO105, HO108, HO116, HO119, BK111, BK122, HB⟩ := n_; (try clear hb); (try clear hb2); (try clear hk); (try clear hi)))
      go_ret
      exact Z2O
     ·rw [if_neg c10] at H
      have c10b0 : (t110 == t121) = false := beq_eq_false_iff_ne.mpr c10
      have c10b1 : (t110 != t121) = true := bne_iff_ne.mpr c10
      obtain rfl := Option.some.inj H
      go_enter Tryd.func10, Tryd.ntmps10
      go_wp2_with (first | ((with_reducible refine Ym (f := 25) rfl ?_); refine YM (some 14) rfl rfl Tryd.func25 Z5 rfl #[.string a0] rfl Z0 ?_; (with_reducible refine (YJ.calls k a0 t101 t102 t103 t106 t109 t110 _ ?side1 A3.out).mono ?_); (case side1 => exact Zk); rintro e w29 ⟨v104, v107, rfl, ho0, ho1, hb⟩; refine ⟨_, rfl, ?_⟩; have n_ := Y2h (Kd.R_lower (Kd.R_mono (ok' := fun k_ => True) ho0 (fun _ hk_ => trivial)) (Yc QB)) (Kd.N_lower (Kd.N_mono (ok' := fun k_ => some k_ ≠ (v104 : Value).ownBlock) ho1 (fun k_ hk_ => hk_.2)) (Yc QB)) (Yd QB hb); clear HB; obtain ⟨HO105, HO108, HB⟩ := n_; (try clear hb); (try clear hb2); (try clear hk); (try clear hi); (try clear ho0); (try clear ho1)) | ((with_reducible refine YG (N := 3) rfl ?_); refine YC ?hg (N := 3) ?hd (cs := #[.int .i64 0, .string (⟨#[]⟩ : ByteArray), .slice none 0 0, .slice none 0 0]) (t := 37) ?hr ?_; (case hd => rfl); (case hg => rfl); (case hr => exact Z8); intro gb111 hg w30 hbox hb; have n_ := Y2E (Kd.R_below Zd hb) (Kd.N_below (Kd.N_elderB Zc gb111 (Nat.le_of_eq hg.symm)) hb) (Yd QB hb) (hbox) ((by rw [hg]; exact (Yc QB) : w.heap.size ≤ gb111)) ((by rw [hg]; exact (Yc QB) : w.heap.size ≤ gb111)); clear HO105 HO108 HB; obtain ⟨HO105, HO108, HB, BK111, GW111, GE111⟩ := n_; clear hb hbox hg; obtain ⟨hcz31_0, hcz31_1, hcz31_2, hcz31_3, hfz31_0, hfz31_1, hfz31_2, hfz31_3⟩ := YA BK111.out; obtain ⟨Ao32, co32, eo32⟩ := Kd.R_slice HO105.out; subst eo32; obtain ⟨Ao33, co33, eo33⟩ := Kd.N_slice HO108.out; subst eo33) | ((with_reducible refine Ym (f := 26) rfl ?_); refine YM (some 20) rfl rfl Tryd.func26 Z5 rfl #[.string a0] rfl Z0 ?_; (with_reducible refine (YD.calls k a0 t112 t113 t114 t117 t120 t121 _ ?side1 A4.out).mono ?_); (case side1 => exact Z3); rintro e w34 ⟨v115, v118, rfl, ho0, ho1, hb⟩; refine ⟨_, rfl, ?_⟩; have n0_ := Y0.mk (Kd.R_elder' Zy (Kd.R_base ho0) hb); have n1_ := Y0.mk (Kd.N_mono (Kd.N_told (Kd.N_told (Kd.N_old Z19 hb) (Kd.R_base ho0)) (Kd.N_base ho1)) (fun _ h_ => h_.1)); have n2_ := Y0.mk (Kd.R_lower (Kd.R_new' (Kd.R_mono (ok' := fun k_ => True) ho0 (fun _ hk_ => trivial)) (Kd.R_lt Zy)) (Yc QB)); have n3_ := Y0.mk (Kd.N_lower (Kd.N_mono (ok' := fun k_ => some k_ ≠ (v115 : Value).ownBlock ∧ some k_ ≠ (.slice Ao32 t103.length co32 : Value).ownBlock ∧ some k_ ≠ (.slice Ao33 t106.length co33 : Value).ownBlock ∧ k_ ≠ gb111) ho1 (fun k_ hk_ => ⟨hk_.2, (Kd.fresh' (Kd.R_lt Zy) k_ hk_.1), (Kd.fresh' (Kd.N_lt Z19) k_ hk_.1), (Kd.freshB (g := gb111) (o := .cells #[.int .i64 t101, .string t102, .slice Ao32 t103.length co32, .slice Ao33 t106.length co33] 37 (0, 0)) Z2Z k_ hk_.1)⟩)) (Yc QB)); have n4_ := Y0.mk (Ys (g := gb111) (o := .cells #[.int .i64 t101, .string t102, .slice Ao32 t103.length co32, .slice Ao33 t106.length co33] 37 (0, 0)) Z2Z hb); have n5_ := Y0.mk (Yd QB hb); clear HO105 HO108 BK111 HB; have HO105 := n0_; have HO108 := n1_; have HO116 := n2_; have HO119 := n3_; have BK111 := n4_; have HB := n5_; clear n0_ n1_ n2_ n3_ n4_ n5_; (try clear hb); (try clear hb2); (try clear hk); (try clear hi); (try clear ho0); (try clear ho1)) | ((with_reducible refine YG (N := 6) rfl ?_); refine YC ?hg (N := 6) ?hd (cs := #[.int .i64 0, .string (⟨#[]⟩ : ByteArray), .slice none 0 0, .slice none 0 0]) (t := 37) ?hr ?_; (case hd => rfl); (case hg => rfl); (case hr => exact Z8); intro gb122 hg w35 hbox hb; have n0_ := Y0.mk (Kd.R_below Zd hb); have n1_ := Y0.mk (Kd.N_below (Kd.N_elderB Zc gb122 (Nat.le_of_eq hg.symm)) hb); have n2_ := Y0.mk (Kd.R_below ZE hb); have n3_ := Y0.mk (Kd.N_below (Kd.N_elderB ZD gb122 (Nat.le_of_eq hg.symm)) hb); have n4_ := Y0.mk (Ys (g := gb111) (o := .cells #[.int .i64 t101, .string t102, .slice Ao32 t103.length co32, .slice Ao33 t106.length co33] 37 (0, 0)) QQ hb); have n5_ := Y0.mk (Yd QB hb); have n6_ := Y0.mk (hbox); have n7_ := Y0.mk ((by rw [hg]; exact (Yc QB) : w.heap.size ≤ gb122)); have n8_ := Y0.mk ((by rw [hg]; exact (Yc QB) : w.heap.size ≤ gb122)); have n9_ := Y0.mk ((by rw [hg]; exact Nat.ne_of_lt (YY (g := gb111) (o := .cells #[.int .i64 t101, .string t102, .slice Ao32 t103.length co32, .slice Ao33 t106.length co33] 37 (0, 0)) QQ) : gb111 ≠ gb122)); have n10_ := Y0.mk ((by rw [hg]; exact Nat.ne_of_gt (YY (g := gb111) (o := .cells #[.int .i64 t101, .string t102, .slice Ao32 t103.length co32, .slice Ao33 t106.length co33] 37 (0, 0)) QQ) : gb122 ≠ gb111)); clear HO105 HO108 HO116 HO119 BK111 HB; have HO105 := n0_; have HO108 := n1_; have HO116 := n2_; have HO119 := n3_; have BK111 := n4_; have HB := n5_; have BK122 := n6_; have GW122 := n7_; have GE122 := n8_; have NB111_122 := n9_; have NB122_111 := n10_; clear n0_ n1_ n2_ n3_ n4_ n5_ n6_ n7_ n8_ n9_ n10_ hb hbox hg; have hnb36 := NB122_111.out; have hnc36 := NB111_122.out; obtain ⟨hcz37_0, hcz37_1, hcz37_2, hcz37_3, hfz37_0, hfz37_1, hfz37_2, hfz37_3⟩ := YA BK122.out; obtain ⟨Ao38, co38, eo38⟩ := Kd.R_slice HO116.out; subst eo38; obtain ⟨Ao39, co39, eo39⟩ := Kd.N_slice HO119.out; subst eo39; obtain ⟨hcz40_0, hcz40_1, hcz40_2, hcz40_3, hfz40_0, hfz40_1, hfz40_2, hfz40_3⟩ := YA BK111.out) | ((with_reducible refine Ym (f := 30) rfl ?_); refine YM (some 26) rfl rfl Tryd.func30 Z5 rfl #[.agg #[.int .i64 t101, .string t102, .slice Ao32 t103.length co32, .slice Ao33 t106.length co33], .agg #[.int .i64 t112, .string t113, .slice Ao38 t114.length co38, .slice Ao39 t117.length co39]] rfl Z0 ?_; (with_reducible refine (YO.calls k t101 t102 _ _ t103 _ _ t106 t112 t113 _ _ t114 _ _ t117 t123 _ ?side1 ?side2 ?side3 ?side4 ?side5 ?side6 ?side7 ?side8 A5.out).mono ?_); (case side1 => refine (Kd.R_reads' (e := 9) (base := w.heap.size) (ok := fun k_ => (True ∧ some k_ ≠ (.slice Ao38 t114.length co38 : Value).ownBlock)) (n := t103.length) (c := co32) ?_).2.2; exact Z1v); (case side2 => exact Z1Q); (case side3 => refine (Kd.N_reads' (e := 37) (base := w.heap.size) (ok := fun k_ => ((((some k_ ≠ (.slice Ao32 t103.length co32 : Value).ownBlock ∧ k_ ≠ gb111) ∧ some k_ ≠ (.slice Ao38 t114.length co38 : Value).ownBlock) ∧ some k_ ≠ (.slice Ao39 t117.length co39 : Value).ownBlock) ∧ k_ ≠ gb122)) (n := t106.length) (c := co33) ?_).2.2; exact Z1e); (case side4 => exact Z1P); (case side5 => refine (Kd.R_reads' (e := 9) (base := w.heap.size) (ok := fun k_ => (True ∧ some k_ ≠ (.slice Ao32 t103.length co32 : Value).ownBlock)) (n := t114.length) (c := co38) ?_).2.2; exact Z1A); (case side6 => exact Z1Z); (case side7 => refine (Kd.N_reads' (e := 37) (base := w.heap.size) (ok := fun k_ => ((some k_ ≠ (.slice Ao38 t114.length co38 : Value).ownBlock ∧ (some k_ ≠ (.slice Ao32 t103.length co32 : Value).ownBlock ∧ (some k_ ≠ (.slice Ao33 t106.length co33 : Value).ownBlock ∧ k_ ≠ gb111))) ∧ k_ ≠ gb122)) (n := t117.length) (c := co39) ?_).2.2; exact Z1j); (case side8 => exact Z1Y); rintro e w41 ⟨rfl, hb⟩; refine ⟨_, rfl, ?_⟩; have n0_ := Y0.mk (Kd.R_below Z1v hb); have n1_ := Y0.mk (Kd.N_below Z1e hb); have n2_ := Y0.mk (Kd.R_below Z1A hb); have n3_ := Y0.mk (Kd.N_below Z1j hb); have n4_ := Y0.mk (Ys (g := gb111) (o := .cells #[.int .i64 t101, .string t102, .slice Ao32 t103.length co32, .slice Ao33 t106.length co33] 37 (0, 0)) Zb hb); have n5_ := Y0.mk (Ys (g := gb122) (o := .cells #[.int .i64 t112, .string t113, .slice Ao38 t114.length co38, .slice Ao39 t117.length co39] 37 (0, 0)) (by (with_reducible repeat (first | refine Yj ?_ _ | refine Yg ?_ | refine Ye ?_ _)); exact YF (cs := #[.int .i64 t112, .string t113, .slice Ao38 t114.length co38, .slice none 0 0]) Z2B 3 _ rfl) hb); have n6_ := Y0.mk (Yd QB hb); clear HO105 HO108 HO116 HO119 BK111 BK122 HB; have HO105 := n0_; have HO108 := n1_; have HO116 := n2_; have HO119 := n3_; have BK111 := n4_; have BK122 := n5_; have HB := n6_; clear n0_ n1_ n2_ n3_ n4_ n5_ n6_; (try clear hb); (try clear hb2); (try clear hk); (try clear hi); obtain ⟨hcz42_0, hcz42_1, hcz42_2, hcz42_3, hfz42_0, hfz42_1, hfz42_2, hfz42_3⟩ := YA BK111.out; obtain ⟨hcz43_0, hcz43_1, hcz43_2, hcz43_3, hfz43_0, hfz43_1, hfz43_2, hfz43_3⟩ := YA BK122.out) | (go_at_call 28; (with_reducible refine (Y5.calls k t101 t102 _ _ t103 _ _ t106 t112 t113 _ _ t114 _ _ t117 true _ ?side1 ?side2 ?side3 ?side4 ?side5 ?side6 ?side7 ?side8 A7.out).mono ?_); (case side1 => exact ZS); (case side2 => exact Z1Q); (case side3 => exact ZR); (case side4 => exact Z1P); (case side5 => exact Z1r); (case side6 => exact Z1Z); (case side7 => exact Z1q); (case side8 => exact Z1Y); rintro e w44 ⟨rfl, hb⟩; have n_ := Y45 (Kd.R_below Zd hb) (Kd.N_below Zc hb) (Kd.R_below ZE hb) (Kd.N_below ZD hb) (Ys (g := gb111) (o := .cells #[.int .i64 t101, .string t102, .slice Ao32 t103.length co32, .slice Ao33 t106.length co33] 37 (0, 0)) QQ hb) (Ys (g := gb122) (o := .cells #[.int .i64 t112, .string t113, .slice Ao38 t114.length co38, .slice Ao39 t117.length co39] 37 (0, 0)) QQ hb) (Yd QB hb); clear HO105 HO108 HO116 HO119 BK111 BK122 HB; obtain ⟨HO105, HO108, HO116, HO119, BK111, BK122, HB⟩ := n_; (try clear hb); (try clear hb2); (try clear hk); (try clear hi)))
      go_ret
      exact Z2O
    ·rw [if_neg c9] at H
     have c9b0 : (t109 == t120) = false := beq_eq_false_iff_ne.mpr c9
     have c9b1 : (t109 != t120) = true := bne_iff_ne.mpr c9
     obtain rfl := Option.some.inj H
     go_enter Tryd.func10, Tryd.ntmps10
     go_wp2_with (first | ((with_reducible refine Ym (f := 25) rfl ?_); refine YM (some 14) rfl rfl Tryd.func25 Z5 rfl #[.string a0] rfl Z0 ?_; (with_reducible refine (YJ.calls k a0 t101 t102 t103 t106 t109 t110 _ ?side1 A3.out).mono ?_); (case side1 => exact Zk); rintro e w45 ⟨v104, v107, rfl, ho0, ho1, hb⟩; refine ⟨_, rfl, ?_⟩; have n_ := Y2h (Kd.R_lower (Kd.R_mono (ok' := fun k_ => True) ho0 (fun _ hk_ => trivial)) (Yc QB)) (Kd.N_lower (Kd.N_mono (ok' := fun k_ => some k_ ≠ (v104 : Value).ownBlock) ho1 (fun k_ hk_ => hk_.2)) (Yc QB)) (Yd QB hb); clear HB; obtain ⟨HO105, HO108, HB⟩ := n_; (try clear hb); (try clear hb2); (try clear hk); (try clear hi); (try clear ho0); (try clear ho1)) | ((with_reducible refine YG (N := 3) rfl ?_); refine YC ?hg (N := 3) ?hd (cs := #[.int .i64 0, .string (⟨#[]⟩ : ByteArray), .slice none 0 0, .slice none 0 0]) (t := 37) ?hr ?_; (case hd => rfl); (case hg => rfl); (case hr => exact Z8); intro gb111 hg w46 hbox hb; have n_ := Y2E (Kd.R_below Zd hb) (Kd.N_below (Kd.N_elderB Zc gb111 (Nat.le_of_eq hg.symm)) hb) (Yd QB hb) (hbox) ((by rw [hg]; exact (Yc QB) : w.heap.size ≤ gb111)) ((by rw [hg]; exact (Yc QB) : w.heap.size ≤ gb111)); clear HO105 HO108 HB; obtain ⟨HO105, HO108, HB, BK111, GW111, GE111⟩ := n_; clear hb hbox hg; obtain ⟨hcz47_0, hcz47_1, hcz47_2, hcz47_3, hfz47_0, hfz47_1, hfz47_2, hfz47_3⟩ := YA BK111.out; obtain ⟨Ao48, co48, eo48⟩ := Kd.R_slice HO105.out; subst eo48; obtain ⟨Ao49, co49, eo49⟩ := Kd.N_slice HO108.out; subst eo49) | ((with_reducible refine Ym (f := 26) rfl ?_); refine YM (some 20) rfl rfl Tryd.func26 Z5 rfl #[.string a0] rfl Z0 ?_; (with_reducible refine (YD.calls k a0 t112 t113 t114 t117 t120 t121 _ ?side1 A4.out).mono ?_); (case side1 => exact Z3); rintro e w50 ⟨v115, v118, rfl, ho0, ho1, hb⟩; refine ⟨_, rfl, ?_⟩; have n0_ := Y0.mk (Kd.R_elder' Zz (Kd.R_base ho0) hb); have n1_ := Y0.mk (Kd.N_mono (Kd.N_told (Kd.N_told (Kd.N_old Z1a hb) (Kd.R_base ho0)) (Kd.N_base ho1)) (fun _ h_ => h_.1)); have n2_ := Y0.mk (Kd.R_lower (Kd.R_new' (Kd.R_mono (ok' := fun k_ => True) ho0 (fun _ hk_ => trivial)) (Kd.R_lt Zz)) (Yc QB)); have n3_ := Y0.mk (Kd.N_lower (Kd.N_mono (ok' := fun k_ => some k_ ≠ (v115 : Value).ownBlock ∧ some k_ ≠ (.slice Ao48 t103.length co48 : Value).ownBlock ∧ some k_ ≠ (.slice Ao49 t106.length co49 : Value).ownBlock ∧ k_ ≠ gb111) ho1 (fun k_ hk_ => ⟨hk_.2, (Kd.fresh' (Kd.R_lt Zz) k_ hk_.1), (Kd.fresh' (Kd.N_lt Z1a) k_ hk_.1), (Kd.freshB (g := gb111) (o := .cells #[.int .i64 t101, .string t102, .slice Ao48 t103.length co48, .slice Ao49 t106.length co49] 37 (0, 0)) Z30 k_ hk_.1)⟩)) (Yc QB)); have n4_ := Y0.mk (Ys (g := gb111) (o := .cells #[.int .i64 t101, .string t102, .slice Ao48 t103.length co48, .slice Ao49 t106.length co49] 37 (0, 0)) Z30 hb); have n5_ := Y0.mk (Yd QB hb); clear HO105 HO108 BK111 HB; have HO105 := n0_; have HO108 := n1_; have HO116 := n2_; have HO119 := n3_; have BK111 := n4_; have HB := n5_; clear n0_ n1_ n2_ n3_ n4_ n5_; (try clear hb); (try clear hb2); (try clear hk); (try clear hi); (try clear ho0); (try clear ho1)) | ((with_reducible refine YG (N := 6) rfl ?_); refine YC ?hg (N := 6) ?hd (cs := #[.int .i64 0, .string (⟨#[]⟩ : ByteArray), .slice none 0 0, .slice none 0 0]) (t := 37) ?hr ?_; (case hd => rfl); (case hg => rfl); (case hr => exact Z8); intro gb122 hg w51 hbox hb; have n0_ := Y0.mk (Kd.R_below Zd hb); have n1_ := Y0.mk (Kd.N_below (Kd.N_elderB Zc gb122 (Nat.le_of_eq hg.symm)) hb); have n2_ := Y0.mk (Kd.R_below ZE hb); have n3_ := Y0.mk (Kd.N_below (Kd.N_elderB ZD gb122 (Nat.le_of_eq hg.symm)) hb); have n4_ := Y0.mk (Ys (g := gb111) (o := .cells #[.int .i64 t101, .string t102, .slice Ao48 t103.length co48, .slice Ao49 t106.length co49] 37 (0, 0)) QQ hb); have n5_ := Y0.mk (Yd QB hb); have n6_ := Y0.mk (hbox); have n7_ := Y0.mk ((by rw [hg]; exact (Yc QB) : w.heap.size ≤ gb122)); have n8_ := Y0.mk ((by rw [hg]; exact (Yc QB) : w.heap.size ≤ gb122)); have n9_ := Y0.mk ((by rw [hg]; exact Nat.ne_of_lt (YY (g := gb111) (o := .cells #[.int .i64 t101, .string t102, .slice Ao48 t103.length co48, .slice Ao49 t106.length co49] 37 (0, 0)) QQ) : gb111 ≠ gb122)); have n10_ := Y0.mk ((by rw [hg]; exact Nat.ne_of_gt (YY (g := gb111) (o := .cells #[.int .i64 t101, .string t102, .slice Ao48 t103.length co48, .slice Ao49 t106.length co49] 37 (0, 0)) QQ) : gb122 ≠ gb111)); clear HO105 HO108 HO116 HO119 BK111 HB; have HO105 := n0_; have HO108 := n1_; have HO116 := n2_; have HO119 := n3_; have BK111 := n4_; have HB := n5_; have BK122 := n6_; have GW122 := n7_; have GE122 := n8_; have NB111_122 := n9_; have NB122_111 := n10_; clear n0_ n1_ n2_ n3_ n4_ n5_ n6_ n7_ n8_ n9_ n10_ hb hbox hg; have hnb52 := NB122_111.out; have hnc52 := NB111_122.out; obtain ⟨hcz53_0, hcz53_1, hcz53_2, hcz53_3, hfz53_0, hfz53_1, hfz53_2, hfz53_3⟩ := YA BK122.out; obtain ⟨Ao54, co54, eo54⟩ := Kd.R_slice HO116.out; subst eo54; obtain ⟨Ao55, co55, eo55⟩ := Kd.N_slice HO119.out; subst eo55; obtain ⟨hcz56_0, hcz56_1, hcz56_2, hcz56_3, hfz56_0, hfz56_1, hfz56_2, hfz56_3⟩ := YA BK111.out) | ((with_reducible refine Ym (f := 30) rfl ?_); refine YM (some 26) rfl rfl Tryd.func30 Z5 rfl #[.agg #[.int .i64 t101, .string t102, .slice Ao48 t103.length co48, .slice Ao49 t106.length co49], .agg #[.int .i64 t112, .string t113, .slice Ao54 t114.length co54, .slice Ao55 t117.length co55]] rfl Z0 ?_; (with_reducible refine (YO.calls k t101 t102 _ _ t103 _ _ t106 t112 t113 _ _ t114 _ _ t117 t123 _ ?side1 ?side2 ?side3 ?side4 ?side5 ?side6 ?side7 ?side8 A5.out).mono ?_); (case side1 => refine (Kd.R_reads' (e := 9) (base := w.heap.size) (ok := fun k_ => (True ∧ some k_ ≠ (.slice Ao54 t114.length co54 : Value).ownBlock)) (n := t103.length) (c := co48) ?_).2.2; exact Z1w); (case side2 => exact Z1Q); (case side3 => refine (Kd.N_reads' (e := 37) (base := w.heap.size) (ok := fun k_ => ((((some k_ ≠ (.slice Ao48 t103.length co48 : Value).ownBlock ∧ k_ ≠ gb111) ∧ some k_ ≠ (.slice Ao54 t114.length co54 : Value).ownBlock) ∧ some k_ ≠ (.slice Ao55 t117.length co55 : Value).ownBlock) ∧ k_ ≠ gb122)) (n := t106.length) (c := co49) ?_).2.2; exact Z1f); (case side4 => exact Z1P); (case side5 => refine (Kd.R_reads' (e := 9) (base := w.heap.size) (ok := fun k_ => (True ∧ some k_ ≠ (.slice Ao48 t103.length co48 : Value).ownBlock)) (n := t114.length) (c := co54) ?_).2.2; exact Z1B); (case side6 => exact Z1Z); (case side7 => refine (Kd.N_reads' (e := 37) (base := w.heap.size) (ok := fun k_ => ((some k_ ≠ (.slice Ao54 t114.length co54 : Value).ownBlock ∧ (some k_ ≠ (.slice Ao48 t103.length co48 : Value).ownBlock ∧ (some k_ ≠ (.slice Ao49 t106.length co49 : Value).ownBlock ∧ k_ ≠ gb111))) ∧ k_ ≠ gb122)) (n := t117.length) (c := co55) ?_).2.2; exact Z1k); (case side8 => exact Z1Y); rintro e w57 ⟨rfl, hb⟩; refine ⟨_, rfl, ?_⟩; have n0_ := Y0.mk (Kd.R_below Z1w hb); have n1_ := Y0.mk (Kd.N_below Z1f hb); have n2_ := Y0.mk (Kd.R_below Z1B hb); have n3_ := Y0.mk (Kd.N_below Z1k hb); have n4_ := Y0.mk (Ys (g := gb111) (o := .cells #[.int .i64 t101, .string t102, .slice Ao48 t103.length co48, .slice Ao49 t106.length co49] 37 (0, 0)) Zb hb); have n5_ := Y0.mk (Ys (g := gb122) (o := .cells #[.int .i64 t112, .string t113, .slice Ao54 t114.length co54, .slice Ao55 t117.length co55] 37 (0, 0)) (by (with_reducible repeat (first | refine Yj ?_ _ | refine Yg ?_ | refine Ye ?_ _)); exact YF (cs := #[.int .i64 t112, .string t113, .slice Ao54 t114.length co54, .slice none 0 0]) Z2B 3 _ rfl) hb); have n6_ := Y0.mk (Yd QB hb); clear HO105 HO108 HO116 HO119 BK111 BK122 HB; have HO105 := n0_; have HO108 := n1_; have HO116 := n2_; have HO119 := n3_; have BK111 := n4_; have BK122 := n5_; have HB := n6_; clear n0_ n1_ n2_ n3_ n4_ n5_ n6_; (try clear hb); (try clear hb2); (try clear hk); (try clear hi); obtain ⟨hcz58_0, hcz58_1, hcz58_2, hcz58_3, hfz58_0, hfz58_1, hfz58_2, hfz58_3⟩ := YA BK111.out; obtain ⟨hcz59_0, hcz59_1, hcz59_2, hcz59_3, hfz59_0, hfz59_1, hfz59_2, hfz59_3⟩ := YA BK122.out) | (go_at_call 28; (with_reducible refine (Y5.calls k t101 t102 _ _ t103 _ _ t106 t112 t113 _ _ t114 _ _ t117 true _ ?side1 ?side2 ?side3 ?side4 ?side5 ?side6 ?side7 ?side8 A7.out).mono ?_); (case side1 => exact ZS); (case side2 => exact Z1Q); (case side3 => exact ZR); (case side4 => exact Z1P); (case side5 => exact Z1r); (case side6 => exact Z1Z); (case side7 => exact Z1q); (case side8 => exact Z1Y); rintro e w60 ⟨rfl, hb⟩; have n_ := Y45 (Kd.R_below Zd hb) (Kd.N_below Zc hb) (Kd.R_below ZE hb) (Kd.N_below ZD hb) (Ys (g := gb111) (o := .cells #[.int .i64 t101, .string t102, .slice Ao48 t103.length co48, .slice Ao49 t106.length co49] 37 (0, 0)) QQ hb) (Ys (g := gb122) (o := .cells #[.int .i64 t112, .string t113, .slice Ao54 t114.length co54, .slice Ao55 t117.length co55] 37 (0, 0)) QQ hb) (Yd QB hb); clear HO105 HO108 HO116 HO119 BK111 BK122 HB; obtain ⟨HO105, HO108, HO116, HO119, BK111, BK122, HB⟩ := n_; (try clear hb); (try clear hb2); (try clear hk); (try clear hi)))
     go_ret
     exact Z2O
   ·replace c8 := Bool.eq_false_iff.mpr c8
    subst c8
    have H1 : (some false) = some r := by rw [if_neg (show ¬ (false = true) by decide)] at H; exact H
    clear H
    have H := H1
    clear H1
    obtain rfl := Option.some.inj H
    go_enter Tryd.func10, Tryd.ntmps10
    go_wp2_with (first | ((with_reducible refine Ym (f := 25) rfl ?_); refine YM (some 14) rfl rfl Tryd.func25 Z5 rfl #[.string a0] rfl Z0 ?_; (with_reducible refine (YJ.calls k a0 t101 t102 t103 t106 t109 t110 _ ?side1 A3.out).mono ?_); (case side1 => exact Zk); rintro e w61 ⟨v104, v107, rfl, ho0, ho1, hb⟩; refine ⟨_, rfl, ?_⟩; have n_ := Y2h (Kd.R_lower (Kd.R_mono (ok' := fun k_ => True) ho0 (fun _ hk_ => trivial)) (Yc QB)) (Kd.N_lower (Kd.N_mono (ok' := fun k_ => some k_ ≠ (v104 : Value).ownBlock) ho1 (fun k_ hk_ => hk_.2)) (Yc QB)) (Yd QB hb); clear HB; obtain ⟨HO105, HO108, HB⟩ := n_; (try clear hb); (try clear hb2); (try clear hk); (try clear hi); (try clear ho0); (try clear ho1)) | ((with_reducible refine YG (N := 3) rfl ?_); refine YC ?hg (N := 3) ?hd (cs := #[.int .i64 0, .string (⟨#[]⟩ : ByteArray), .slice none 0 0, .slice none 0 0]) (t := 37) ?hr ?_; (case hd => rfl); (case hg => rfl); (case hr => exact Z8); intro gb111 hg w62 hbox hb; have n_ := Y2E (Kd.R_below Zd hb) (Kd.N_below (Kd.N_elderB Zc gb111 (Nat.le_of_eq hg.symm)) hb) (Yd QB hb) (hbox) ((by rw [hg]; exact (Yc QB) : w.heap.size ≤ gb111)) ((by rw [hg]; exact (Yc QB) : w.heap.size ≤ gb111)); clear HO105 HO108 HB; obtain ⟨HO105, HO108, HB, BK111, GW111, GE111⟩ := n_; clear hb hbox hg; obtain ⟨hcz63_0, hcz63_1, hcz63_2, hcz63_3, hfz63_0, hfz63_1, hfz63_2, hfz63_3⟩ := YA BK111.out; obtain ⟨Ao64, co64, eo64⟩ := Kd.R_slice HO105.out; subst eo64; obtain ⟨Ao65, co65, eo65⟩ := Kd.N_slice HO108.out; subst eo65) | ((with_reducible refine Ym (f := 26) rfl ?_); refine YM (some 20) rfl rfl Tryd.func26 Z5 rfl #[.string a0] rfl Z0 ?_; (with_reducible refine (YD.calls k a0 t112 t113 t114 t117 t120 t121 _ ?side1 A4.out).mono ?_); (case side1 => exact Z3); rintro e w66 ⟨v115, v118, rfl, ho0, ho1, hb⟩; refine ⟨_, rfl, ?_⟩; have n0_ := Y0.mk (Kd.R_elder' ZA (Kd.R_base ho0) hb); have n1_ := Y0.mk (Kd.N_mono (Kd.N_told (Kd.N_told (Kd.N_old Z1b hb) (Kd.R_base ho0)) (Kd.N_base ho1)) (fun _ h_ => h_.1)); have n2_ := Y0.mk (Kd.R_lower (Kd.R_new' (Kd.R_mono (ok' := fun k_ => True) ho0 (fun _ hk_ => trivial)) (Kd.R_lt ZA)) (Yc QB)); have n3_ := Y0.mk (Kd.N_lower (Kd.N_mono (ok' := fun k_ => some k_ ≠ (v115 : Value).ownBlock ∧ some k_ ≠ (.slice Ao64 t103.length co64 : Value).ownBlock ∧ some k_ ≠ (.slice Ao65 t106.length co65 : Value).ownBlock ∧ k_ ≠ gb111) ho1 (fun k_ hk_ => ⟨hk_.2, (Kd.fresh' (Kd.R_lt ZA) k_ hk_.1), (Kd.fresh' (Kd.N_lt Z1b) k_ hk_.1), (Kd.freshB (g := gb111) (o := .cells #[.int .i64 t101, .string t102, .slice Ao64 t103.length co64, .slice Ao65 t106.length co65] 37 (0, 0)) Z31 k_ hk_.1)⟩)) (Yc QB)); have n4_ := Y0.mk (Ys (g := gb111) (o := .cells #[.int .i64 t101, .string t102, .slice Ao64 t103.length co64, .slice Ao65 t106.length co65] 37 (0, 0)) Z31 hb); have n5_ := Y0.mk (Yd QB hb); clear HO105 HO108 BK111 HB; have HO105 := n0_; have HO108 := n1_; have HO116 := n2_; have HO119 := n3_; have BK111 := n4_; have HB := n5_; clear n0_ n1_ n2_ n3_ n4_ n5_; (try clear hb); (try clear hb2); (try clear hk); (try clear hi); (try clear ho0); (try clear ho1)) | ((with_reducible refine YG (N := 6) rfl ?_); refine YC ?hg (N := 6) ?hd (cs := #[.int .i64 0, .string (⟨#[]⟩ : ByteArray), .slice none 0 0, .slice none 0 0]) (t := 37) ?hr ?_; (case hd => rfl); (case hg => rfl); (case hr => exact Z8); intro gb122 hg w67 hbox hb; have n0_ := Y0.mk (Kd.R_below Zd hb); have n1_ := Y0.mk (Kd.N_below (Kd.N_elderB Zc gb122 (Nat.le_of_eq hg.symm)) hb); have n2_ := Y0.mk (Kd.R_below ZE hb); have n3_ := Y0.mk (Kd.N_below (Kd.N_elderB ZD gb122 (Nat.le_of_eq hg.symm)) hb); have n4_ := Y0.mk (Ys (g := gb111) (o := .cells #[.int .i64 t101, .string t102, .slice Ao64 t103.length co64, .slice Ao65 t106.length co65] 37 (0, 0)) QQ hb); have n5_ := Y0.mk (Yd QB hb); have n6_ := Y0.mk (hbox); have n7_ := Y0.mk ((by rw [hg]; exact (Yc QB) : w.heap.size ≤ gb122)); have n8_ := Y0.mk ((by rw [hg]; exact (Yc QB) : w.heap.size ≤ gb122)); have n9_ := Y0.mk ((by rw [hg]; exact Nat.ne_of_lt (YY (g := gb111) (o := .cells #[.int .i64 t101, .string t102, .slice Ao64 t103.length co64, .slice Ao65 t106.length co65] 37 (0, 0)) QQ) : gb111 ≠ gb122)); have n10_ := Y0.mk ((by rw [hg]; exact Nat.ne_of_gt (YY (g := gb111) (o := .cells #[.int .i64 t101, .string t102, .slice Ao64 t103.length co64, .slice Ao65 t106.length co65] 37 (0, 0)) QQ) : gb122 ≠ gb111)); clear HO105 HO108 HO116 HO119 BK111 HB; have HO105 := n0_; have HO108 := n1_; have HO116 := n2_; have HO119 := n3_; have BK111 := n4_; have HB := n5_; have BK122 := n6_; have GW122 := n7_; have GE122 := n8_; have NB111_122 := n9_; have NB122_111 := n10_; clear n0_ n1_ n2_ n3_ n4_ n5_ n6_ n7_ n8_ n9_ n10_ hb hbox hg; have hnb68 := NB122_111.out; have hnc68 := NB111_122.out; obtain ⟨hcz69_0, hcz69_1, hcz69_2, hcz69_3, hfz69_0, hfz69_1, hfz69_2, hfz69_3⟩ := YA BK122.out; obtain ⟨Ao70, co70, eo70⟩ := Kd.R_slice HO116.out; subst eo70; obtain ⟨Ao71, co71, eo71⟩ := Kd.N_slice HO119.out; subst eo71; obtain ⟨hcz72_0, hcz72_1, hcz72_2, hcz72_3, hfz72_0, hfz72_1, hfz72_2, hfz72_3⟩ := YA BK111.out) | ((with_reducible refine Ym (f := 30) rfl ?_); refine YM (some 26) rfl rfl Tryd.func30 Z5 rfl #[.agg #[.int .i64 t101, .string t102, .slice Ao64 t103.length co64, .slice Ao65 t106.length co65], .agg #[.int .i64 t112, .string t113, .slice Ao70 t114.length co70, .slice Ao71 t117.length co71]] rfl Z0 ?_; (with_reducible refine (YO.calls k t101 t102 _ _ t103 _ _ t106 t112 t113 _ _ t114 _ _ t117 t123 _ ?side1 ?side2 ?side3 ?side4 ?side5 ?side6 ?side7 ?side8 A5.out).mono ?_); (case side1 => refine (Kd.R_reads' (e := 9) (base := w.heap.size) (ok := fun k_ => (True ∧ some k_ ≠ (.slice Ao70 t114.length co70 : Value).ownBlock)) (n := t103.length) (c := co64) ?_).2.2; exact Z1x); (case side2 => exact Z1Q); (case side3 => refine (Kd.N_reads' (e := 37) (base := w.heap.size) (ok := fun k_ => ((((some k_ ≠ (.slice Ao64 t103.length co64 : Value).ownBlock ∧ k_ ≠ gb111) ∧ some k_ ≠ (.slice Ao70 t114.length co70 : Value).ownBlock) ∧ some k_ ≠ (.slice Ao71 t117.length co71 : Value).ownBlock) ∧ k_ ≠ gb122)) (n := t106.length) (c := co65) ?_).2.2; exact Z1g); (case side4 => exact Z1P); (case side5 => refine (Kd.R_reads' (e := 9) (base := w.heap.size) (ok := fun k_ => (True ∧ some k_ ≠ (.slice Ao64 t103.length co64 : Value).ownBlock)) (n := t114.length) (c := co70) ?_).2.2; exact Z1C); (case side6 => exact Z1Z); (case side7 => refine (Kd.N_reads' (e := 37) (base := w.heap.size) (ok := fun k_ => ((some k_ ≠ (.slice Ao70 t114.length co70 : Value).ownBlock ∧ (some k_ ≠ (.slice Ao64 t103.length co64 : Value).ownBlock ∧ (some k_ ≠ (.slice Ao65 t106.length co65 : Value).ownBlock ∧ k_ ≠ gb111))) ∧ k_ ≠ gb122)) (n := t117.length) (c := co71) ?_).2.2; exact Z1l); (case side8 => exact Z1Y); rintro e w73 ⟨rfl, hb⟩; refine ⟨_, rfl, ?_⟩; have n0_ := Y0.mk (Kd.R_below Z1x hb); have n1_ := Y0.mk (Kd.N_below Z1g hb); have n2_ := Y0.mk (Kd.R_below Z1C hb); have n3_ := Y0.mk (Kd.N_below Z1l hb); have n4_ := Y0.mk (Ys (g := gb111) (o := .cells #[.int .i64 t101, .string t102, .slice Ao64 t103.length co64, .slice Ao65 t106.length co65] 37 (0, 0)) Zb hb); have n5_ := Y0.mk (Ys (g := gb122) (o := .cells #[.int .i64 t112, .string t113, .slice Ao70 t114.length co70, .slice Ao71 t117.length co71] 37 (0, 0)) (by (with_reducible repeat (first | refine Yj ?_ _ | refine Yg ?_ | refine Ye ?_ _)); exact YF (cs := #[.int .i64 t112, .string t113, .slice Ao70 t114.length co70, .slice none 0 0]) Z2B 3 _ rfl) hb); have n6_ := Y0.mk (Yd QB hb); clear HO105 HO108 HO116 HO119 BK111 BK122 HB; have HO105 := n0_; have HO108 := n1_; have HO116 := n2_; have HO119 := n3_; have BK111 := n4_; have BK122 := n5_; have HB := n6_; clear n0_ n1_ n2_ n3_ n4_ n5_ n6_; (try clear hb); (try clear hb2); (try clear hk); (try clear hi); obtain ⟨hcz74_0, hcz74_1, hcz74_2, hcz74_3, hfz74_0, hfz74_1, hfz74_2, hfz74_3⟩ := YA BK111.out; obtain ⟨hcz75_0, hcz75_1, hcz75_2, hcz75_3, hfz75_0, hfz75_1, hfz75_2, hfz75_3⟩ := YA BK122.out) | (go_at_call 28; (with_reducible refine (Y5.calls k t101 t102 _ _ t103 _ _ t106 t112 t113 _ _ t114 _ _ t117 false _ ?side1 ?side2 ?side3 ?side4 ?side5 ?side6 ?side7 ?side8 A7.out).mono ?_); (case side1 => exact ZS); (case side2 => exact Z1Q); (case side3 => exact ZR); (case side4 => exact Z1P); (case side5 => exact Z1r); (case side6 => exact Z1Z); (case side7 => exact Z1q); (case side8 => exact Z1Y); rintro e w76 ⟨rfl, hb⟩; have n_ := Y45 (Kd.R_below Zd hb) (Kd.N_below Zc hb) (Kd.R_below ZE hb) (Kd.N_below ZD hb) (Ys (g := gb111) (o := .cells #[.int .i64 t101, .string t102, .slice Ao64 t103.length co64, .slice Ao65 t106.length co65] 37 (0, 0)) QQ hb) (Ys (g := gb122) (o := .cells #[.int .i64 t112, .string t113, .slice Ao70 t114.length co70, .slice Ao71 t117.length co71] 37 (0, 0)) QQ hb) (Yd QB hb); clear HO105 HO108 HO116 HO119 BK111 BK122 HB; obtain ⟨HO105, HO108, HO116, HO119, BK111, BK122, HB⟩ := n_; (try clear hb); (try clear hb2); (try clear hk); (try clear hi)))
    go_ret
    exact Z2O
  ·rw [if_neg c6] at H
   have c6b0 : (t123 == true) = false := by simpa using c6
   (try (have c6b1 : ((t123 = true)) = False := eq_false (by simpa using c6)))
   (try (have c6b2 : decide (t123 = true) = false := by simpa using c6))
   (try (have c6b3 : (t123 == true) = false := by simpa using c6))
   (try (have c6b4 : ¬ (t123 = true) := by simpa using c6))
   clear c6
   obtain rfl := Option.some.inj H
   go_enter Tryd.func10, Tryd.ntmps10
   go_wp2_with (first | ((with_reducible refine Ym (f := 25) rfl ?_); refine YM (some 14) rfl rfl Tryd.func25 Z5 rfl #[.string a0] rfl Z0 ?_; (with_reducible refine (YJ.calls k a0 t101 t102 t103 t106 t109 t110 _ ?side1 A3.out).mono ?_); (case side1 => exact Zk); rintro e w77 ⟨v104, v107, rfl, ho0, ho1, hb⟩; refine ⟨_, rfl, ?_⟩; have n_ := Y2h (Kd.R_lower (Kd.R_mono (ok' := fun k_ => True) ho0 (fun _ hk_ => trivial)) (Yc QB)) (Kd.N_lower (Kd.N_mono (ok' := fun k_ => some k_ ≠ (v104 : Value).ownBlock) ho1 (fun k_ hk_ => hk_.2)) (Yc QB)) (Yd QB hb); clear HB; obtain ⟨HO105, HO108, HB⟩ := n_; (try clear hb); (try clear hb2); (try clear hk); (try clear hi); (try clear ho0); (try clear ho1)) | ((with_reducible refine YG (N := 3) rfl ?_); refine YC ?hg (N := 3) ?hd (cs := #[.int .i64 0, .string (⟨#[]⟩ : ByteArray), .slice none 0 0, .slice none 0 0]) (t := 37) ?hr ?_; (case hd => rfl); (case hg => rfl); (case hr => exact Z8); intro gb111 hg w78 hbox hb; have n_ := Y2E (Kd.R_below Zd hb) (Kd.N_below (Kd.N_elderB Zc gb111 (Nat.le_of_eq hg.symm)) hb) (Yd QB hb) (hbox) ((by rw [hg]; exact (Yc QB) : w.heap.size ≤ gb111)) ((by rw [hg]; exact (Yc QB) : w.heap.size ≤ gb111)); clear HO105 HO108 HB; obtain ⟨HO105, HO108, HB, BK111, GW111, GE111⟩ := n_; clear hb hbox hg; obtain ⟨hcz79_0, hcz79_1, hcz79_2, hcz79_3, hfz79_0, hfz79_1, hfz79_2, hfz79_3⟩ := YA BK111.out; obtain ⟨Ao80, co80, eo80⟩ := Kd.R_slice HO105.out; subst eo80; obtain ⟨Ao81, co81, eo81⟩ := Kd.N_slice HO108.out; subst eo81) | ((with_reducible refine Ym (f := 26) rfl ?_); refine YM (some 20) rfl rfl Tryd.func26 Z5 rfl #[.string a0] rfl Z0 ?_; (with_reducible refine (YD.calls k a0 t112 t113 t114 t117 t120 t121 _ ?side1 A4.out).mono ?_); (case side1 => exact Z3); rintro e w82 ⟨v115, v118, rfl, ho0, ho1, hb⟩; refine ⟨_, rfl, ?_⟩; have n0_ := Y0.mk (Kd.R_elder' ZB (Kd.R_base ho0) hb); have n1_ := Y0.mk (Kd.N_mono (Kd.N_told (Kd.N_told (Kd.N_old Z1c hb) (Kd.R_base ho0)) (Kd.N_base ho1)) (fun _ h_ => h_.1)); have n2_ := Y0.mk (Kd.R_lower (Kd.R_new' (Kd.R_mono (ok' := fun k_ => True) ho0 (fun _ hk_ => trivial)) (Kd.R_lt ZB)) (Yc QB)); have n3_ := Y0.mk (Kd.N_lower (Kd.N_mono (ok' := fun k_ => some k_ ≠ (v115 : Value).ownBlock ∧ some k_ ≠ (.slice Ao80 t103.length co80 : Value).ownBlock ∧ some k_ ≠ (.slice Ao81 t106.length co81 : Value).ownBlock ∧ k_ ≠ gb111) ho1 (fun k_ hk_ => ⟨hk_.2, (Kd.fresh' (Kd.R_lt ZB) k_ hk_.1), (Kd.fresh' (Kd.N_lt Z1c) k_ hk_.1), (Kd.freshB (g := gb111) (o := .cells #[.int .i64 t101, .string t102, .slice Ao80 t103.length co80, .slice Ao81 t106.length co81] 37 (0, 0)) Z32 k_ hk_.1)⟩)) (Yc QB)); have n4_ := Y0.mk (Ys (g := gb111) (o := .cells #[.int .i64 t101, .string t102, .slice Ao80 t103.length co80, .slice Ao81 t106.length co81] 37 (0, 0)) Z32 hb); have n5_ := Y0.mk (Yd QB hb); clear HO105 HO108 BK111 HB; have HO105 := n0_; have HO108 := n1_; have HO116 := n2_; have HO119 := n3_; have BK111 := n4_; have HB := n5_; clear n0_ n1_ n2_ n3_ n4_ n5_; (try clear hb); (try clear hb2); (try clear hk); (try clear hi); (try clear ho0); (try clear ho1)) | ((with_reducible refine YG (N := 6) rfl ?_); refine YC ?hg (N := 6) ?hd (cs := #[.int .i64 0, .string (⟨#[]⟩ : ByteArray), .slice none 0 0, .slice none 0 0]) (t := 37) ?hr ?_; (case hd => rfl); (case hg => rfl); (case hr => exact Z8); intro gb122 hg w83 hbox hb; have n0_ := Y0.mk (Kd.R_below Zd hb); have n1_ := Y0.mk (Kd.N_below (Kd.N_elderB Zc gb122 (Nat.le_of_eq hg.symm)) hb); have n2_ := Y0.mk (Kd.R_below ZE hb); have n3_ := Y0.mk (Kd.N_below (Kd.N_elderB ZD gb122 (Nat.le_of_eq hg.symm)) hb); have n4_ := Y0.mk (Ys (g := gb111) (o := .cells #[.int .i64 t101, .string t102, .slice Ao80 t103.length co80, .slice Ao81 t106.length co81] 37 (0, 0)) QQ hb); have n5_ := Y0.mk (Yd QB hb); have n6_ := Y0.mk (hbox); have n7_ := Y0.mk ((by rw [hg]; exact (Yc QB) : w.heap.size ≤ gb122)); have n8_ := Y0.mk ((by rw [hg]; exact (Yc QB) : w.heap.size ≤ gb122)); have n9_ := Y0.mk ((by rw [hg]; exact Nat.ne_of_lt (YY (g := gb111) (o := .cells #[.int .i64 t101, .string t102, .slice Ao80 t103.length co80, .slice Ao81 t106.length co81] 37 (0, 0)) QQ) : gb111 ≠ gb122)); have n10_ := Y0.mk ((by rw [hg]; exact Nat.ne_of_gt (YY (g := gb111) (o := .cells #[.int .i64 t101, .string t102, .slice Ao80 t103.length co80, .slice Ao81 t106.length co81] 37 (0, 0)) QQ) : gb122 ≠ gb111)); clear HO105 HO108 HO116 HO119 BK111 HB; have HO105 := n0_; have HO108 := n1_; have HO116 := n2_; have HO119 := n3_; have BK111 := n4_; have HB := n5_; have BK122 := n6_; have GW122 := n7_; have GE122 := n8_; have NB111_122 := n9_; have NB122_111 := n10_; clear n0_ n1_ n2_ n3_ n4_ n5_ n6_ n7_ n8_ n9_ n10_ hb hbox hg; have hnb84 := NB122_111.out; have hnc84 := NB111_122.out; obtain ⟨hcz85_0, hcz85_1, hcz85_2, hcz85_3, hfz85_0, hfz85_1, hfz85_2, hfz85_3⟩ := YA BK122.out; obtain ⟨Ao86, co86, eo86⟩ := Kd.R_slice HO116.out; subst eo86; obtain ⟨Ao87, co87, eo87⟩ := Kd.N_slice HO119.out; subst eo87; obtain ⟨hcz88_0, hcz88_1, hcz88_2, hcz88_3, hfz88_0, hfz88_1, hfz88_2, hfz88_3⟩ := YA BK111.out) | ((with_reducible refine Ym (f := 30) rfl ?_); refine YM (some 26) rfl rfl Tryd.func30 Z5 rfl #[.agg #[.int .i64 t101, .string t102, .slice Ao80 t103.length co80, .slice Ao81 t106.length co81], .agg #[.int .i64 t112, .string t113, .slice Ao86 t114.length co86, .slice Ao87 t117.length co87]] rfl Z0 ?_; (with_reducible refine (YO.calls k t101 t102 _ _ t103 _ _ t106 t112 t113 _ _ t114 _ _ t117 t123 _ ?side1 ?side2 ?side3 ?side4 ?side5 ?side6 ?side7 ?side8 A5.out).mono ?_); (case side1 => refine (Kd.R_reads' (e := 9) (base := w.heap.size) (ok := fun k_ => (True ∧ some k_ ≠ (.slice Ao86 t114.length co86 : Value).ownBlock)) (n := t103.length) (c := co80) ?_).2.2; exact Z1y); (case side2 => exact Z1Q); (case side3 => refine (Kd.N_reads' (e := 37) (base := w.heap.size) (ok := fun k_ => ((((some k_ ≠ (.slice Ao80 t103.length co80 : Value).ownBlock ∧ k_ ≠ gb111) ∧ some k_ ≠ (.slice Ao86 t114.length co86 : Value).ownBlock) ∧ some k_ ≠ (.slice Ao87 t117.length co87 : Value).ownBlock) ∧ k_ ≠ gb122)) (n := t106.length) (c := co81) ?_).2.2; exact Z1h); (case side4 => exact Z1P); (case side5 => refine (Kd.R_reads' (e := 9) (base := w.heap.size) (ok := fun k_ => (True ∧ some k_ ≠ (.slice Ao80 t103.length co80 : Value).ownBlock)) (n := t114.length) (c := co86) ?_).2.2; exact Z1D); (case side6 => exact Z1Z); (case side7 => refine (Kd.N_reads' (e := 37) (base := w.heap.size) (ok := fun k_ => ((some k_ ≠ (.slice Ao86 t114.length co86 : Value).ownBlock ∧ (some k_ ≠ (.slice Ao80 t103.length co80 : Value).ownBlock ∧ (some k_ ≠ (.slice Ao81 t106.length co81 : Value).ownBlock ∧ k_ ≠ gb111))) ∧ k_ ≠ gb122)) (n := t117.length) (c := co87) ?_).2.2; exact Z1m); (case side8 => exact Z1Y); rintro e w89 ⟨rfl, hb⟩; refine ⟨_, rfl, ?_⟩; have n0_ := Y0.mk (Kd.R_below Z1y hb); have n1_ := Y0.mk (Kd.N_below Z1h hb); have n2_ := Y0.mk (Kd.R_below Z1D hb); have n3_ := Y0.mk (Kd.N_below Z1m hb); have n4_ := Y0.mk (Ys (g := gb111) (o := .cells #[.int .i64 t101, .string t102, .slice Ao80 t103.length co80, .slice Ao81 t106.length co81] 37 (0, 0)) Zb hb); have n5_ := Y0.mk (Ys (g := gb122) (o := .cells #[.int .i64 t112, .string t113, .slice Ao86 t114.length co86, .slice Ao87 t117.length co87] 37 (0, 0)) (by (with_reducible repeat (first | refine Yj ?_ _ | refine Yg ?_ | refine Ye ?_ _)); exact YF (cs := #[.int .i64 t112, .string t113, .slice Ao86 t114.length co86, .slice none 0 0]) Z2B 3 _ rfl) hb); have n6_ := Y0.mk (Yd QB hb); clear HO105 HO108 HO116 HO119 BK111 BK122 HB; have HO105 := n0_; have HO108 := n1_; have HO116 := n2_; have HO119 := n3_; have BK111 := n4_; have BK122 := n5_; have HB := n6_; clear n0_ n1_ n2_ n3_ n4_ n5_ n6_; (try clear hb); (try clear hb2); (try clear hk); (try clear hi)))
   go_ret
   exact Z2O
def Y3y.f (a0 : Int) : Option (ByteArray) := if a0 = 5 then (some (⟨#[42]⟩ : ByteArray)) else (if a0 = 6 then (some (⟨#[43]⟩ : ByteArray)) else (some (⟨#[63]⟩ : ByteArray)))
mutual
def YS.l0 : Nat → ByteArray → Int → Int → ByteArray → List ByteArray → List (S37) → Option (ByteArray)
 | 0, _, _, _, _, _, _ => none
 | k + 1, x3, x4, x102000, x102001, x102002, x102003 => if x4 < (x102002.length : Int) then (if x4 > 0 then (if x3.size + 1 ≤ 9223372036854775807 then (if x3.size + 1 + 1 ≤ 9223372036854775807 then (if 0 ≤ x4 then (if x3.size + 1 + 1 + (Y2D ByteArray.empty x102002 x4).size ≤ 9223372036854775807 then (if x3.size + 1 + 1 + ((Y2D ByteArray.empty x102002 x4).size) + 1 ≤ 9223372036854775807 then (YS.l0 k ((((x3 ++ (⟨#[124]⟩ : ByteArray)) ++ (⟨#[60]⟩ : ByteArray)) ++ (Y2D ByteArray.empty x102002 x4)) ++ (⟨#[62]⟩ : ByteArray)) (wrap64 (x4 + 1)) x102000 x102001 x102002 x102003) else (none)) else (none)) else (none)) else (none)) else (none)) else (if x3.size + 1 ≤ 9223372036854775807 then (if 0 ≤ x4 then (if x3.size + 1 + (Y2D ByteArray.empty x102002 x4).size ≤ 9223372036854775807 then (if x3.size + 1 + ((Y2D ByteArray.empty x102002 x4).size) + 1 ≤ 9223372036854775807 then (YS.l0 k (((x3 ++ (⟨#[60]⟩ : ByteArray)) ++ (Y2D ByteArray.empty x102002 x4)) ++ (⟨#[62]⟩ : ByteArray)) (wrap64 (x4 + 1)) x102000 x102001 x102002 x102003) else (none)) else (none)) else (none)) else (none))) else (if x3.size + 1 ≤ 9223372036854775807 then (some (x3 ++ (⟨#[41]⟩ : ByteArray))) else (none))
def YS.f : Nat → Int → ByteArray → List ByteArray → List (S37) → Option (ByteArray)
 | 0, _, _, _, _ => none
 | k + 1, a0_0, a0_1, l0_2, l0_3 => if a0_0 = 1 then (if 1 + a0_1.size ≤ 9223372036854775807 then (if 1 + a0_1.size + 1 ≤ 9223372036854775807 then (some (((⟨#[60]⟩ : ByteArray) ++ a0_1) ++ (⟨#[62]⟩ : ByteArray))) else (none)) else (none)) else (if a0_0 = 2 then (if 0 < (l0_3.length : Int) then ((Y12.f k ((Yh l0_3 0).f0) ((Yh l0_3 0).f1) ((Yh l0_3 0).f2) ((Yh l0_3 0).f3)).bind fun t103 => (if 1 + t103.size ≤ 9223372036854775807 then (some ((⟨#[94]⟩ : ByteArray) ++ t103)) else (none))) else (none)) else (if a0_0 = 3 then (if 0 < (l0_3.length : Int) then ((Y12.f k ((Yh l0_3 0).f0) ((Yh l0_3 0).f1) ((Yh l0_3 0).f2) ((Yh l0_3 0).f3)).bind fun t105 => (if t105.size + 1 ≤ 9223372036854775807 then (if 1 < (l0_3.length : Int) then ((Y12.f k ((Yh l0_3 1).f0) ((Yh l0_3 1).f1) ((Yh l0_3 1).f2) ((Yh l0_3 1).f3)).bind fun t107 => (if t105.size + 1 + t107.size ≤ 9223372036854775807 then (some ((t105 ++ (⟨#[47]⟩ : ByteArray)) ++ t107)) else (none))) else (none)) else (none))) else (none)) else (if a0_0 = 4 then (if 0 < (l0_3.length : Int) then ((Y12.f k ((Yh l0_3 0).f0) ((Yh l0_3 0).f1) ((Yh l0_3 0).f2) ((Yh l0_3 0).f3)).bind fun t109 => (if t109.size + 1 ≤ 9223372036854775807 then (if 1 < (l0_3.length : Int) then ((Y12.f k ((Yh l0_3 1).f0) ((Yh l0_3 1).f1) ((Yh l0_3 1).f2) ((Yh l0_3 1).f3)).bind fun t111 => (if t109.size + 1 + t111.size ≤ 9223372036854775807 then (some ((t109 ++ (⟨#[124]⟩ : ByteArray)) ++ t111)) else (none))) else (none)) else (none))) else (none)) else (if a0_0 = 8 then (YS.l0 k (⟨#[33, 40]⟩ : ByteArray) 0 a0_0 a0_1 l0_2 l0_3) else (if 0 < (l0_3.length : Int) then ((Y12.f k ((Yh l0_3 0).f0) ((Yh l0_3 0).f1) ((Yh l0_3 0).f2) ((Yh l0_3 0).f3)).bind fun t115 => ((Y3y.f a0_0).bind fun t116 => (if t115.size + t116.size ≤ 9223372036854775807 then (some (t115 ++ t116)) else (none)))) else (none))))))
def Y12.f : Nat → Int → ByteArray → List ByteArray → List (S37) → Option (ByteArray)
 | 0, _, _, _, _ => none
 | k + 1, a0_0, a0_1, l0_2, l0_3 => if a0_0 = 1 then ((YS.f k a0_0 a0_1 l0_2 l0_3).bind fun t118 => (some t118)) else ((YS.f k a0_0 a0_1 l0_2 l0_3).bind fun t119 => (if 1 + t119.size ≤ 9223372036854775807 then (if 1 + t119.size + 1 ≤ 9223372036854775807 then (some (((⟨#[40]⟩ : ByteArray) ++ t119) ++ (⟨#[41]⟩ : ByteArray))) else (none)) else (none)))
end
theorem YS.mono_j : ∀ k, (∀ y0 y1 y2 y3, LeO (YS.f k y0 y1 y2 y3) (YS.f (k + 1) y0 y1 y2 y3)) ∧ (∀ y0 y1 y2 y3 y4 y5, LeO (YS.l0 k y0 y1 y2 y3 y4 y5) (YS.l0 (k + 1) y0 y1 y2 y3 y4 y5)) ∧ (∀ y0 y1 y2 y3, LeO (Y12.f k y0 y1 y2 y3) (Y12.f (k + 1) y0 y1 y2 y3))
 | 0 => ⟨fun _ _ _ _ r h => by simp [YS.f] at h, fun _ _ _ _ _ _ r h => by simp [YS.l0] at h, fun _ _ _ _ r h => by simp [Y12.f] at h⟩
 | k + 1 => by
  obtain ⟨ih0, ih1, ih2⟩ := YS.mono_j k
  refine ⟨?_, ?_, ?_⟩
  ·intro y0 y1 y2 y3
   unfold YS.f
   repeat' first
   | (with_reducible exact ih0 _ _ _ _)
   | (with_reducible exact ih1 _ _ _ _ _ _)
   | (with_reducible exact ih2 _ _ _ _)
   | (with_reducible exact LeO.refl _)
   | (with_reducible exact LeO.none _)
   | (with_reducible refine LeO.ite ?_ ?_)
   | (with_reducible refine LeO.bind ?_ (fun _ => ?_))
   | exact ih0 _ _ _ _
   | exact ih1 _ _ _ _ _ _
   | exact ih2 _ _ _ _
   | exact LeO.none _
   | refine LeO.ite ?_ ?_
   | refine LeO.bind ?_ (fun _ => ?_)
  ·intro y0 y1 y2 y3 y4 y5
   unfold YS.l0
   repeat' first
   | (with_reducible exact ih0 _ _ _ _)
   | (with_reducible exact ih1 _ _ _ _ _ _)
   | (with_reducible exact ih2 _ _ _ _)
   | (with_reducible exact LeO.refl _)
   | (with_reducible exact LeO.none _)
   | (with_reducible refine LeO.ite ?_ ?_)
   | (with_reducible refine LeO.bind ?_ (fun _ => ?_))
   | exact ih0 _ _ _ _
   | exact ih1 _ _ _ _ _ _
   | exact ih2 _ _ _ _
   | exact LeO.none _
   | refine LeO.ite ?_ ?_
   | refine LeO.bind ?_ (fun _ => ?_)
  ·intro y0 y1 y2 y3
   unfold Y12.f
   repeat' first
   | (with_reducible exact ih0 _ _ _ _)
   | (with_reducible exact ih1 _ _ _ _ _ _)
   | (with_reducible exact ih2 _ _ _ _)
   | (with_reducible exact LeO.refl _)
   | (with_reducible exact LeO.none _)
   | (with_reducible refine LeO.ite ?_ ?_)
   | (with_reducible refine LeO.bind ?_ (fun _ => ?_))
   | exact ih0 _ _ _ _
   | exact ih1 _ _ _ _ _ _
   | exact ih2 _ _ _ _
   | exact LeO.none _
   | refine LeO.ite ?_ ?_
   | refine LeO.bind ?_ (fun _ => ?_)
end Go.Proofs.YtbpbfboaofkpaaaDoor.Print
end
section
set_option linter.unusedVariables false
set_option linter.unusedSimpArgs false
namespace Go.Proofs.YtbpbfboaofkpaaaDoor.Print
open Go.RowKit Go.Shelf Go.Lib Go.Proofs.YtbpbfboaofkpaaaDoorW.PrintWords
def Suf (s : ByteArray) (l : List UInt8) : Prop := ∃ pre, s.data.toList = pre ++ l
def ps (s : ByteArray) (l : List UInt8) : Int := (s.size : Int) - (l.length : Int)
def hd : List UInt8 → Int
 | [] => 0
 | c :: _ => (c.toNat : Int)
def skip : List UInt8 → List UInt8
 | [] => []
 | c :: l => if c = 32 then skip l else c :: l
theorem Suf.tail {s : ByteArray} {c : UInt8} {l : List UInt8} (h : Suf s (c :: l)) : Suf s l := by
 obtain ⟨pre, h⟩ := h
 exact ⟨pre ++ [c], by simpa using h⟩
theorem Suf.app {s : ByteArray} {t l : List UInt8} (h : Suf s (t ++ l)) : Suf s l := by
 obtain ⟨pre, h⟩ := h
 exact ⟨pre ++ t, by simpa using h⟩
theorem Suf.skip {s : ByteArray} : ∀ {l : List UInt8}, Suf s l → Suf s (skip l)
 | [], h => h
 | c :: l, h => by
  unfold Print.skip
  by_cases e : c = 32
  ·rw [if_pos e]; exact Suf.skip h.tail
  ·rw [if_neg e]; exact h
theorem Suf.len {s : ByteArray} {l : List UInt8} (h : Suf s l) : l.length ≤ s.size := by
 obtain ⟨pre, h⟩ := h
 have := congrArg List.length h
 rw [Array.length_toList, List.length_append] at this
 have e : s.size = s.data.size := rfl
 omega
theorem Suf.whole (s : ByteArray) : Suf s s.data.toList := ⟨[], rfl⟩
theorem Y32 (s : ByteArray) : ps s s.data.toList = 0 := by
 unfold ps
 rw [Array.length_toList]
 have e : s.size = s.data.size := rfl
 omega
theorem Suf.ps0 {s : ByteArray} {l : List UInt8} (h : Suf s l) : 0 ≤ ps s l := by
 have := h.len; unfold ps; omega
theorem Y2w (s : ByteArray) : ps s [] = s.size := by simp [ps]
theorem Y2t (s : ByteArray) (c : UInt8) (l : List UInt8) : ps s (c :: l) < s.size := by simp [ps]; omega
theorem ps_le (s : ByteArray) (l : List UInt8) : ps s l ≤ s.size := by unfold ps; omega
theorem Y1h {s : ByteArray} (hs : s.size ≤ 100000000) {c : UInt8} {l : List UInt8} (h : Suf s (c :: l)) : wrap64 (ps s (c :: l) + 1) = ps s l := by
 have := h.len
 simp only [List.length_cons] at this
 unfold ps wrap64
 simp only [List.length_cons]
 omega
theorem Y3F {s : ByteArray} {c : UInt8} {l : List UInt8} (h : Suf s (c :: l)) : bt s (ps s (c :: l)) = (c.toNat : Int) := by
 obtain ⟨pre, h⟩ := h
 have hl := congrArg List.length h
 rw [Array.length_toList, List.length_append, List.length_cons] at hl
 have e : s.size = s.data.size := rfl
 have hp : (ps s (c :: l)).toNat = pre.length := by unfold ps; simp only [List.length_cons]; omega
 have hlt : (ps s (c :: l)).toNat < s.size := by omega
 unfold bt
 rw [dif_pos hlt]
 have hlt2 : (ps s (c :: l)).toNat < s.data.toList.length := by rw [Array.length_toList]; omega
 have : s[(ps s (c :: l)).toNat] = s.data.toList[(ps s (c :: l)).toNat] := rfl
 rw [this]
 simp [h, hp]
theorem Y2Z (l : List UInt8) : (skip l).length ≤ l.length := by
 induction l with
 | nil => exact Nat.le_refl _
 | cons c l ih =>
  unfold skip
  split
  ·exact Nat.le_succ_of_le ih
  ·exact Nat.le_refl _
theorem Y5a {c : UInt8} {n : Nat} (h : n < 256) : ((c.toNat : Int) = (n : Int)) ↔ c = UInt8.ofNat n := by
 constructor
 ·intro e
  apply UInt8.toNat_inj.mp
  rw [UInt8.toNat_ofNat']
  omega
 ·intro e
  rw [e, UInt8.toNat_ofNat']
  omega
theorem Y1N (s : ByteArray) (hs : s.size ≤ 100000000) (o : Int) : ∀ l, Suf s l → Ev (fun k => Y8.f k s (ps s l) 0 o) (hd (skip l), s, ps s (skip l), 0, o)
 | [], h => by
  refine Ev.step (f := fun _ => _) (fun k => ?_) (Ev.now _)
  show Y8.l0 (k + 1) s (ps s []) 0 o = _
  simp only [Y8.l0, if_true]
  rw [Y2w, if_neg (by omega), if_pos (by omega)]
  simp [skip, hd, Y2w]
 | c :: l, h => by
  have b := Y3F h
  by_cases e : c = 32
  ·refine Ev.step (f := fun k => Y8.f k s (ps s l) 0 o) (fun k => ?_) ?_
   ·show Y8.l0 (k + 1) s (ps s (c :: l)) 0 o = Y8.l0 k s (ps s l) 0 o
    simp only [Y8.l0, if_true]
    rw [if_pos (Y2t s c l), if_pos h.ps0, b, if_pos (by rw [e]; rfl), Y1h hs h]
   ·have := Y1N s hs o l h.tail
    unfold skip; rw [if_pos e]; exact this
  ·refine Ev.step (f := fun _ => _) (fun k => ?_) (Ev.now _)
   show Y8.l0 (k + 1) s (ps s (c :: l)) 0 o = _
   simp only [Y8.l0, if_true]
   have hl := Y2t s c l
   rw [if_pos hl, if_pos h.ps0, b, if_neg (by intro e2; exact e ((Y5a (n := 32) (by omega)).mp e2)), if_neg (by omega)]
   unfold skip; rw [if_neg e]; rfl
theorem next_e (s : ByteArray) (a e o : Int) (he : e ≠ 0) : Ev (fun k => Y8.f k s a e o) (0, s, a, e, o) := by
 refine Ev.step (f := fun _ => _) (fun k => ?_) (Ev.now _)
 show Y8.l0 (k + 1) s a e o = _
 simp only [Y8.l0]
 rw [if_neg he]
theorem Y3Y {s : ByteArray} (hs : s.size ≤ 100000000) (o : Int) {l : List UInt8} {c : UInt8} {r : List UInt8} (h : Suf s l) (e : skip l = c :: r) (n : Int) (hn : n = (c.toNat : Int)) :
  Ev (fun k => Yy.f k s (ps s l) 0 o n) (true, s, ps s r, 0, o) := by
 have hq := h.skip
 rw [e] at hq
 have h1 := Y1N s hs o l h
 rw [e] at h1
 refine Ev.bind h1 (Ev.congr (fun k => ?_) (Ev.now _))
 show (if (c.toNat : Int) = n then _ else _) = _
 rw [if_pos hn.symm, Y1h hs hq]
theorem is_no {s : ByteArray} (hs : s.size ≤ 100000000) (o : Int) {l : List UInt8} (h : Suf s l) (n : Int) (hn : hd (skip l) ≠ n) :
  Ev (fun k => Yy.f k s (ps s l) 0 o n) (false, s, ps s (skip l), 0, o) := by
 refine Ev.bind (Y1N s hs o l h) (Ev.congr (fun k => ?_) (Ev.now _))
 show (if hd (skip l) = n then _ else _) = _
 rw [if_neg hn]
theorem is_e (s : ByteArray) (a e o n : Int) (he : e ≠ 0) (hn : n ≠ 0) : Ev (fun k => Yy.f k s a e o n) (false, s, a, e, o) := by
 refine Ev.bind (next_e s a e o he) (Ev.congr (fun k => ?_) (Ev.now _))
 show (if (0 : Int) = n then _ else _) = _
 rw [if_neg (fun q => hn q.symm)]
theorem Y2O (s : ByteArray) (a o b c : Int) : Yq.f s a 0 o b c = some (0, ⟨#[]⟩, [], [], s, a, c, b) := by
 unfold Yq.f; rw [if_pos rfl]
theorem fails_e (s : ByteArray) (a e o b c : Int) (he : e ≠ 0) : Yq.f s a e o b c = some (0, ⟨#[]⟩, [], [], s, a, e, o) := by
 unfold Yq.f; rw [if_neg he]
theorem Y5A {s : ByteArray} (hs : s.size ≤ 100000000) (o : Int) {l : List UInt8} {c : UInt8} {r : List UInt8} (h : Suf s l) (e : skip l = c :: r) (n : Int) (hn : n = (c.toNat : Int)) :
  Ev (fun k => Yx.f k s (ps s l) 0 o n) (s, ps s r, 0, o) :=
 Ev.bind (Y3Y hs o h e n hn) (Ev.congr (fun k => by simp) (Ev.now _))
theorem must_no {s : ByteArray} (hs : s.size ≤ 100000000) (o : Int) {l : List UInt8} (h : Suf s l) (n : Int) (hn : hd (skip l) ≠ n) :
  Ev (fun k => Yx.f k s (ps s l) 0 o n) (s, ps s (skip l), 2, ps s (skip l)) :=
 Ev.bind (is_no hs o h n hn) (Ev.congr (fun k => by simp [Y2O]) (Ev.now _))
theorem must_e (s : ByteArray) (a e o n : Int) (he : e ≠ 0) (hn : n ≠ 0) : Ev (fun k => Yx.f k s a e o n) (s, a, e, o) :=
 Ev.bind (is_e s a e o n he hn) (Ev.congr (fun k => by simp [fails_e _ _ _ _ _ _ he]) (Ev.now _))
def Y3G : List UInt8 → Option (List UInt8 × List UInt8)
 | [] => none
 | c :: l => if c = 62 then some ([], l) else (Y3G l).map fun x => (c :: x.1, x.2)
theorem Y2u : ∀ {l t r}, Y3G l = some (t, r) → l = t ++ 62 :: r ∧ ¬ (62 : UInt8) ∈ t
 | [], t, r, h => by simp [Y3G] at h
 | c :: l, t, r, h => by
  unfold Y3G at h
  by_cases e : c = 62
  ·rw [if_pos e] at h
   simp only [Option.some.injEq, Prod.mk.injEq] at h
   obtain ⟨rfl, rfl⟩ := h
   simp [e]
  ·rw [if_neg e] at h
   cases hu : Y3G l with
   | none => rw [hu] at h; cases h
   | some x =>
    rw [hu] at h
    simp only [Option.map_some, Option.some.injEq, Prod.mk.injEq] at h
    obtain ⟨rfl, rfl⟩ := h
    obtain ⟨h1, h2⟩ := Y2u (t := x.1) (r := x.2) hu
    refine ⟨by rw [h1]; simp, ?_⟩
    simp only [List.mem_cons, not_or]
    exact ⟨fun q => e q.symm, h2⟩
theorem Y5w : ∀ l, Lib.index l [62] = (match Y3G l with | some (t, _) => (t.length : Int) | none => -1)
 | [] => by simp [Lib.index, Y3G]
 | c :: l => by
  unfold Lib.index Y3G
  by_cases e : c = 62
  ·subst e; simp [List.isPrefixOf]
  ·have e2 : ([62] : List UInt8).isPrefixOf (c :: l) = false := by
    simp only [List.isPrefixOf, Bool.and_true, beq_eq_false_iff_ne]; exact fun q => e q.symm
   rw [if_neg e, e2, Y5w l]
   cases Y3G l with
   | none => rfl
   | some x =>
    have : ((x.1.length : Int) == -1) = false := by rw [beq_eq_false_iff_ne]; omega
    simp [this]
theorem cut_gt (l : List UInt8) : Lib.cut l [62] = (match Y3G l with | some (t, r) => (t, r, true) | none => (l, [], false)) := by
 unfold Lib.cut
 rw [Y5w]
 cases h : Y3G l with
 | none => simp
 | some x =>
  obtain ⟨t, r⟩ := x
  obtain ⟨h1, _⟩ := Y2u h
  have : (0 : Int) ≤ (t.length : Int) := by omega
  simp only [this, if_true]
  rw [h1]
  simp
def Y3e (l : List UInt8) : Option (ByteArray × List UInt8) :=
 match skip l with
 | [] => none
 | c :: r => if c = 60 then
   match Y3G r with
   | none => none
   | some (t, l1) => if Y5Q ⟨t.toArray⟩ then some (⟨t.toArray⟩, l1) else none
  else none
theorem Y3X {l : List UInt8} {t : ByteArray} {l1 : List UInt8} (h : Y3e l = some (t, l1)) : ∃ r, skip l = 60 :: r ∧ Y3G r = some (t.data.toList, l1) ∧ Y5Q t = true := by
 unfold Y3e at h
 cases hk : skip l with
 | nil => rw [hk] at h; cases h
 | cons c r =>
  rw [hk] at h
  simp only at h
  by_cases e : c = 60
  ·rw [if_pos e] at h
   cases hu : Y3G r with
   | none => rw [hu] at h; cases h
   | some x =>
    rw [hu] at h
    simp only at h
    by_cases hi : Y5Q ⟨x.1.toArray⟩ = true
    ·rw [if_pos hi] at h
     simp only [Option.some.injEq, Prod.mk.injEq] at h
     obtain ⟨rfl, rfl⟩ := h
     exact ⟨r, by rw [e], hu, hi⟩
    ·rw [if_neg hi] at h; cases h
  ·rw [if_neg e] at h; cases h
theorem Y5u {s : ByteArray} {r : List UInt8} (h : Suf s r) : (s.extract (ps s r).toNat s.size).data.toList = r := by
 obtain ⟨pre, h⟩ := h
 have hl := congrArg List.length h
 rw [Array.length_toList, List.length_append] at hl
 have e : s.size = s.data.size := rfl
 have hp : (ps s r).toNat = pre.length := by unfold ps; omega
 rw [hp, ByteArray.data_extract, Array.toList_extract, h]
 rw [List.extract_eq_take_drop]
 simp
 apply List.take_of_length_le
 omega
theorem Y5f {a b : ByteArray} (h : a.data.toList = b.data.toList) : a = b := by
 cases a; cases b
 congr
 exact Array.toList_inj.mp h
theorem Y3N (a : ByteArray) : a.data.toList.length = a.size := by rw [Array.length_toList]; rfl
theorem Y2s {s : ByteArray} (hs : s.size ≤ 100000000) (o : Int) {l : List UInt8} {t : ByteArray} {l1 : List UInt8} (h : Suf s l) (hi : Y3e l = some (t, l1)) :
  Ev (fun k => Yw.f k s (ps s l) 0 o) (t, s, ps s l1, 0, o) ∧ Suf s l1 ∧ l1.length + 2 ≤ l.length := by
 obtain ⟨r, hk, hu, hb⟩ := Y3X hi
 have hq := h.skip
 have hle := Y2Z l
 rw [hk] at hq hle
 obtain ⟨hr, hn⟩ := Y2u hu
 have hl1 : Suf s l1 := by have := hq.tail; rw [hr] at this; exact (this.app).tail
 refine ⟨?_, hl1, ?_⟩
 ·refine Ev.bind (by have := Y1N s hs o l h; rw [hk] at this; exact this) (Ev.congr (f := fun _ => _) (fun k => ?_) (Ev.now _))
  have hlen := hq.len
  have hrl := congrArg List.length hr
  rw [List.length_append, List.length_cons, Y3N] at hrl
  simp only [List.length_cons] at hlen
  have h60 : hd (60 :: r) = 60 := rfl
  show (if hd (60 :: r) = 60 then _ else _) = _
  rw [if_pos h60]
  simp only [Y1h hs hq]
  rw [if_pos hq.tail.ps0, if_pos (ps_le s r)]
  unfold strings_Cut.f
  have hx := Y5u hq.tail
  have hxs : (s.extract (ps s r).toNat s.size).size = r.length := by rw [← Y3N, hx]
  rw [if_pos (by unfold Y5y; rw [hxs]; exact decide_eq_true (by omega)), hx]
  have e62 : (⟨#[62]⟩ : ByteArray).data.toList = [62] := rfl
  rw [e62, cut_gt, hu]
  simp only [Option.bind_some, if_true]
  unfold Y17.f
  have et : (⟨t.data.toList.toArray⟩ : ByteArray) = t := Y5f (by simp)
  rw [et, if_pos (by unfold Y3E; exact decide_eq_true (by omega)), hb]
  simp only [Option.bind_some, if_true]
  have hw : wrap64 (ps s (60 :: r) + wrap64 ((t.size : Int) + 2)) = ps s l1 := by
   unfold ps wrap64
   simp only [List.length_cons]
   omega
  rw [hw]
 ·have := congrArg List.length hr
  rw [List.length_append] at this
  simp only [List.length_cons] at this hle
  omega
theorem Y3H {s : ByteArray} (hs : s.size ≤ 100000000) (o : Int) {l : List UInt8} (h : Suf s l) (hi : Y3e l = none) :
  Ev (fun k => Yw.f k s (ps s l) 0 o) (⟨#[]⟩, s, ps s (skip l), 2, ps s (skip l)) := by
 have hq := h.skip
 refine Ev.bind (Y1N s hs o l h) (Ev.congr (f := fun _ => _) (fun k => ?_) (Ev.now _))
 show (if hd (skip l) = 60 then _ else _) = _
 by_cases e : hd (skip l) = 60
 ·rw [if_pos e]
  unfold Y3e at hi
  cases hk : skip l with
  | nil => rw [hk] at e; cases e
  | cons c r =>
   rw [hk] at hi e hq
   have ec : c = 60 := (Y5a (n := 60) (by omega)).mp e
   subst ec
   simp only [if_true] at hi
   have hlen := hq.len
   simp only [List.length_cons] at hlen
   simp only [Y1h hs hq]
   rw [if_pos hq.tail.ps0, if_pos (ps_le s r)]
   unfold strings_Cut.f
   have hx := Y5u hq.tail
   have hxs : (s.extract (ps s r).toNat s.size).size = r.length := by rw [← Y3N, hx]
   rw [if_pos (by unfold Y5y; rw [hxs]; exact decide_eq_true (by omega)), hx]
   have e62 : (⟨#[62]⟩ : ByteArray).data.toList = [62] := rfl
   rw [e62, cut_gt]
   cases hu : Y3G r with
   | none => simp [Y2O]
   | some x =>
    rw [hu] at hi
    simp only at hi
    obtain ⟨hr, _⟩ := Y2u (t := x.1) (r := x.2) hu
    have hrl := congrArg List.length hr
    rw [List.length_append, List.length_cons] at hrl
    have hb : Y5Q ⟨x.1.toArray⟩ = false := by
     by_cases hb : Y5Q ⟨x.1.toArray⟩ = true
     ·rw [if_pos hb] at hi; cases hi
     ·simpa using hb
    simp only [Option.bind_some, if_true]
    unfold Y17.f
    have z : (⟨x.1.toArray⟩ : ByteArray).size = x.1.length := by rw [← Y3N]
    rw [if_pos (by unfold Y3E; rw [z]; exact decide_eq_true (by omega)), hb]
    simp [Y2O]
 ·rw [if_neg e]
  simp [Y2O]
theorem Y2S (s : ByteArray) (hs : s.size ≤ 100000000) (o : Int) : ∀ l, Suf s l → Ev (fun k => Y4.f k s (ps s l) 0 o) (hd (skip l), s, ps s (skip l), 0, o)
 | [], h => by
  refine Ev.step (f := fun _ => _) (fun k => ?_) (Ev.now _)
  show Y4.l0 (k + 1) s (ps s []) 0 o = _
  simp only [Y4.l0, if_true]
  rw [Y2w, if_neg (by omega), if_pos (by omega)]
  simp [skip, hd, Y2w]
 | c :: l, h => by
  have b := Y3F h
  by_cases e : c = 32
  ·refine Ev.step (f := fun k => Y4.f k s (ps s l) 0 o) (fun k => ?_) ?_
   ·show Y4.l0 (k + 1) s (ps s (c :: l)) 0 o = Y4.l0 k s (ps s l) 0 o
    simp only [Y4.l0, if_true]
    rw [if_pos (Y2t s c l), if_pos h.ps0, b, if_pos (by rw [e]; rfl), Y1h hs h]
   ·have := Y2S s hs o l h.tail
    unfold skip; rw [if_pos e]; exact this
  ·refine Ev.step (f := fun _ => _) (fun k => ?_) (Ev.now _)
   show Y4.l0 (k + 1) s (ps s (c :: l)) 0 o = _
   simp only [Y4.l0, if_true]
   have hl := Y2t s c l
   rw [if_pos hl, if_pos h.ps0, b, if_neg (by intro e2; exact e ((Y5a (n := 32) (by omega)).mp e2)), if_neg (by omega)]
   unfold skip; rw [if_neg e]; rfl
theorem Y58 (s : ByteArray) (hs : s.size ≤ 100000000) (e o : Int) (he : e ≠ 0) : ∀ l, Suf s l → Ev (fun k => Y4.f k s (ps s l) e o) (0, s, ps s (skip l), e, o)
 | [], h => by
  refine Ev.step (f := fun _ => _) (fun k => ?_) (Ev.now _)
  show Y4.l0 (k + 1) s (ps s []) e o = _
  simp only [Y4.l0]
  rw [Y2w, if_neg (by omega), if_neg he]
  simp [skip, Y2w]
 | c :: l, h => by
  have b := Y3F h
  by_cases e2 : c = 32
  ·refine Ev.step (f := fun k => Y4.f k s (ps s l) e o) (fun k => ?_) ?_
   ·show Y4.l0 (k + 1) s (ps s (c :: l)) e o = Y4.l0 k s (ps s l) e o
    simp only [Y4.l0]
    rw [if_pos (Y2t s c l), if_pos h.ps0, b, if_pos (by rw [e2]; rfl), Y1h hs h]
   ·have := Y58 s hs e o he l h.tail
    unfold skip; rw [if_pos e2]; exact this
  ·refine Ev.step (f := fun _ => _) (fun k => ?_) (Ev.now _)
   show Y4.l0 (k + 1) s (ps s (c :: l)) e o = _
   simp only [Y4.l0]
   have hl := Y2t s c l
   rw [if_pos hl, if_pos h.ps0, b, if_neg (by intro q; exact e2 ((Y5a (n := 32) (by omega)).mp q)), if_neg he]
   unfold skip; rw [if_neg e2]
theorem Y2a {s : ByteArray} (hs : s.size ≤ 100000000) (o : Int) {l : List UInt8} {c : UInt8} {r : List UInt8} (h : Suf s l) (e : skip l = c :: r) (n : Int) (hn : n = (c.toNat : Int)) :
  Ev (fun k => Y7.f k s (ps s l) 0 o n) (true, s, ps s r, 0, o) := by
 have hq := h.skip
 rw [e] at hq
 have h1 := Y2S s hs o l h
 rw [e] at h1
 refine Ev.bind h1 (Ev.congr (fun k => ?_) (Ev.now _))
 show (if (c.toNat : Int) = n then _ else _) = _
 rw [if_pos hn.symm, Y1h hs hq]
theorem Y2r {s : ByteArray} (hs : s.size ≤ 100000000) (o : Int) {l : List UInt8} (h : Suf s l) (n : Int) (hn : hd (skip l) ≠ n) :
  Ev (fun k => Y7.f k s (ps s l) 0 o n) (false, s, ps s (skip l), 0, o) := by
 refine Ev.bind (Y2S s hs o l h) (Ev.congr (fun k => ?_) (Ev.now _))
 show (if hd (skip l) = n then _ else _) = _
 rw [if_neg hn]
theorem Y43 (s : ByteArray) (hs : s.size ≤ 100000000) (e o n : Int) (he : e ≠ 0) (hn : n ≠ 0) {l : List UInt8} (h : Suf s l) : Ev (fun k => Y7.f k s (ps s l) e o n) (false, s, ps s (skip l), e, o) := by
 refine Ev.bind (Y58 s hs e o he l h) (Ev.congr (fun k => ?_) (Ev.now _))
 show (if (0 : Int) = n then _ else _) = _
 rw [if_neg (fun q => hn q.symm)]
theorem Y3A (s : ByteArray) (a o b c : Int) : Yr.f s a 0 o b c = some (0, ⟨#[]⟩, [], [], s, a, c, b) := by
 unfold Yr.f; rw [if_pos rfl]
theorem fail_e (s : ByteArray) (a e o b c : Int) (he : e ≠ 0) : Yr.f s a e o b c = some (0, ⟨#[]⟩, [], [], s, a, e, o) := by
 unfold Yr.f; rw [if_neg he]
theorem Y1e : ∀ l, skip (skip l) = skip l
 | [] => rfl
 | c :: l => by
  by_cases e : c = 32
  ·have : skip (c :: l) = skip l := by conv => lhs; unfold skip; rw [if_pos e]
   rw [this]; exact Y1e l
  ·have : skip (c :: l) = c :: l := by conv => lhs; unfold skip; rw [if_neg e]
   rw [this, this]
theorem Y3l (s : ByteArray) (hs : s.size ≤ 100000000) (a e o : Int) : ∀ (r : List UInt8), Suf s r →
  (∀ t l1, Y3G r = some (t, l1) → ∀ x, Ev (fun k => Y1.j1 k (ps s (62 :: l1)) s a e o) x → Ev (fun k => Y1.l0 k (ps s r) s a e o) x) ∧
  (Y3G r = none → ∀ x, Ev (fun k => Y1.j1 k (ps s []) s a e o) x → Ev (fun k => Y1.l0 k (ps s r) s a e o) x)
 | [], h => by
  refine ⟨fun t l1 hu => by simp [Y3G] at hu, fun _ x hx => ?_⟩
  refine Ev.step (fun k => ?_) hx
  simp only [Y1.l0]
  rw [if_neg (by rw [Y2w]; omega)]
 | c :: r, h => by
  obtain ⟨ih1, ih2⟩ := Y3l s hs a e o r h.tail
  have b := Y3F h
  by_cases q : c = 62
  ·subst q
   refine ⟨fun t l1 hu x hx => ?_, fun hu => ?_⟩
   ·unfold Y3G at hu
    rw [if_pos rfl] at hu
    simp only [Option.some.injEq, Prod.mk.injEq] at hu
    obtain ⟨rfl, rfl⟩ := hu
    refine Ev.step (fun k => ?_) hx
    simp only [Y1.l0]
    rw [if_pos (Y2t s _ _), if_pos h.ps0, b, if_pos (show ((UInt8.toNat 62 : Nat) : Int) = 62 from rfl)]
   ·unfold Y3G at hu
    rw [if_pos rfl] at hu
    cases hu
  ·have st : ∀ k, Y1.l0 (k + 1) (ps s (c :: r)) s a e o = Y1.l0 k (ps s r) s a e o := by
    intro k
    simp only [Y1.l0]
    rw [if_pos (Y2t s _ _), if_pos h.ps0, b, if_neg (by intro w; exact q ((Y5a (n := 62) (by omega)).mp w)), Y1h hs h]
   refine ⟨fun t l1 hu x hx => ?_, fun hu x hx => ?_⟩
   ·unfold Y3G at hu
    rw [if_neg q] at hu
    cases hv : Y3G r with
    | none => rw [hv] at hu; cases hu
    | some y =>
     rw [hv] at hu
     simp only [Option.map_some, Option.some.injEq, Prod.mk.injEq] at hu
     obtain ⟨rfl, rfl⟩ := hu
     exact Ev.step st (ih1 y.1 y.2 hv x hx)
   ·unfold Y3G at hu
    rw [if_neg q] at hu
    exact Ev.step st (ih2 (by cases hv : Y3G r with | none => rfl | some y => rw [hv] at hu; cases hu) x hx)
theorem Y5v {s : ByteArray} {t l1 : List UInt8} {r : List UInt8} (h : Suf s r) (hr : r = t ++ l1) : (s.extract (ps s r).toNat (ps s l1).toNat) = ⟨t.toArray⟩ := by
 apply Y5f
 obtain ⟨pre, h⟩ := h
 have hl := congrArg List.length h
 rw [Array.length_toList, List.length_append] at hl
 have e : s.size = s.data.size := rfl
 have hrl := congrArg List.length hr
 rw [List.length_append] at hrl
 have hp : (ps s r).toNat = pre.length := by unfold ps; omega
 have hp2 : (ps s l1).toNat = pre.length + t.length := by unfold ps; omega
 rw [hp, hp2, ByteArray.data_extract, Array.toList_extract, h, hr]
 rw [List.extract_eq_take_drop]
 simp
theorem ps_mono {s : ByteArray} {l m : List UInt8} (h : l.length ≤ m.length) : ps s m ≤ ps s l := by unfold ps; omega
theorem Y2Y {s : ByteArray} (hs : s.size ≤ 100000000) (o : Int) {l : List UInt8} {t : ByteArray} {l1 : List UInt8} (h : Suf s l) (hi : Y3e l = some (t, l1)) :
  Ev (fun k => Y1.f k s (ps s l) 0 o) (t, s, ps s l1, 0, o) := by
 obtain ⟨r, hk, hu, hb⟩ := Y3X hi
 have hq := h.skip
 rw [hk] at hq
 obtain ⟨hr, hn⟩ := Y2u hu
 have hr2 : Suf s (62 :: l1) := by have := hq.tail; rw [hr] at this; exact this.app
 refine Ev.bind (by have := Y2S s hs o l h; rw [hk] at this; exact this) (Ev.congr (f := fun k => Y1.l0 k (ps s r) s (ps s (60 :: r)) 0 o) (fun k => ?_) ?_)
 ·have h60 : hd (60 :: r) = 60 := rfl
  show (if hd (60 :: r) = 60 then _ else _) = _
  rw [if_pos h60, Y1h hs hq]
 ·refine (Y3l s hs _ _ _ r hq.tail).1 _ _ hu _ (Ev.step (f := fun _ => _) (fun k => ?_) (Ev.now _))
  have hlen := hq.len
  have hrl := congrArg List.length hr
  rw [List.length_append, List.length_cons, Y3N] at hrl
  simp only [List.length_cons] at hlen
  simp only [Y1.j1]
  rw [if_neg (by have := Y2t s 62 l1; omega), Y1h hs hq, if_pos hq.tail.ps0, if_pos (ps_mono (by simp only [List.length_cons]; omega)), if_pos (ps_le s _)]
  rw [Y5v hq.tail hr, Y1h hs hr2]
  have et : (⟨t.data.toList.toArray⟩ : ByteArray) = t := Y5f (by simp)
  rw [et]
  unfold Y18.f
  rw [if_pos (by unfold Y3E; exact decide_eq_true (by omega)), hb]
  simp
theorem Y2X {s : ByteArray} (hs : s.size ≤ 100000000) (o : Int) {l : List UInt8} (h : Suf s l) (hi : Y3e l = none) :
  Ev (fun k => Y1.f k s (ps s l) 0 o) (⟨#[]⟩, s, ps s (skip l), 2, ps s (skip l)) := by
 have hq := h.skip
 by_cases e : hd (skip l) = 60
 ·unfold Y3e at hi
  cases hk : skip l with
  | nil => rw [hk] at e; cases e
  | cons c r =>
   rw [hk] at hi e hq
   have ec : c = 60 := (Y5a (n := 60) (by omega)).mp e
   subst ec
   simp only [if_true] at hi
   have hlen := hq.len
   simp only [List.length_cons] at hlen
   refine Ev.bind (by have := Y2S s hs o l h; rw [hk] at this; exact this) (Ev.congr (f := fun k => Y1.l0 k (ps s r) s (ps s (60 :: r)) 0 o) (fun k => ?_) ?_)
   ·have h60 : hd (60 :: r) = 60 := rfl
    show (if hd (60 :: r) = 60 then _ else _) = _
    rw [if_pos h60, Y1h hs hq]
   ·cases hu : Y3G r with
    | none =>
     refine (Y3l s hs _ _ _ r hq.tail).2 hu _ (Ev.step (f := fun _ => _) (fun k => ?_) (Ev.now _))
     simp only [Y1.j1]
     rw [if_pos (by rw [Y2w]; omega)]
     simp [Y3A]
    | some x =>
     rw [hu] at hi
     simp only at hi
     obtain ⟨hr, _⟩ := Y2u (t := x.1) (r := x.2) hu
     have hrl := congrArg List.length hr
     rw [List.length_append, List.length_cons] at hrl
     have hb : Y5Q ⟨x.1.toArray⟩ = false := by
      by_cases hb : Y5Q ⟨x.1.toArray⟩ = true
      ·rw [if_pos hb] at hi; cases hi
      ·simpa using hb
     refine (Y3l s hs _ _ _ r hq.tail).1 x.1 x.2 hu _ (Ev.step (f := fun _ => _) (fun k => ?_) (Ev.now _))
     simp only [Y1.j1]
     rw [if_neg (by have := Y2t s 62 x.2; omega), Y1h hs hq, if_pos hq.tail.ps0, if_pos (ps_mono (by simp only [List.length_cons]; omega)), if_pos (ps_le s _)]
     rw [Y5v hq.tail hr]
     unfold Y18.f
     have z : (⟨x.1.toArray⟩ : ByteArray).size = x.1.length := by rw [← Y3N]
     rw [if_pos (by unfold Y3E; rw [z]; exact decide_eq_true (by omega)), hb]
     simp [Y3A]
 ·refine Ev.bind (Y2S s hs o l h) (Ev.congr (f := fun _ => _) (fun k => ?_) (Ev.now _))
  show (if hd (skip l) = 60 then _ else _) = _
  rw [if_neg e]
  simp [Y3A]
theorem Ev.up {α : Type} {g : Nat → Option α} {r : α} (h : Ev (fun k => g (k + 1)) r) : Ev g r := Ev.step (fun _ => rfl) h
inductive Res where
 | ok (p : S37) (l : List UInt8)
 | bad (c : Int) (l : List UInt8)
inductive NT where
 | path | pathL (p : S37) | seq | seqL (p : S37) | step | stepL (p : S37) | back | nt | notL (ts : List ByteArray)
def pK (k : Int) (l : List S37) : S37 := ⟨k, ⟨#[]⟩, [], l⟩
def pIri (t : ByteArray) : S37 := ⟨1, t, [], []⟩
def pNot (l : List ByteArray) : S37 := ⟨8, ⟨#[]⟩, l, []⟩
def signK (n : Int) : Int := if n = 42 then 5 else if n = 43 then 6 else 7
inductive P : NT → Nat → List UInt8 → Res → Prop
 | path_ok {d l p l1 res} : P .seq d l (.ok p l1) → P (.pathL p) d l1 res → P .path d l res
 | path_bad {d l c lb} : P .seq d l (.bad c lb) → P .path d l (.bad c lb)
 | pathL_more {d p l r q l1 res} : skip l = 124 :: r → P .seq d r (.ok q l1) → P (.pathL (pK 4 [p, q])) d l1 res → P (.pathL p) d l res
 | pathL_bad {d p l r c lb} : skip l = 124 :: r → P .seq d r (.bad c lb) → P (.pathL p) d l (.bad c lb)
 | pathL_end {d p l} : hd (skip l) ≠ 124 → P (.pathL p) d l (.ok p (skip l))
 | seq_ok {d l p l1 res} : P .step d l (.ok p l1) → P (.seqL p) d l1 res → P .seq d l res
 | seq_bad {d l c lb} : P .step d l (.bad c lb) → P .seq d l (.bad c lb)
 | seqL_more {d p l r q l1 res} : skip l = 47 :: r → P .step d r (.ok q l1) → P (.seqL (pK 3 [p, q])) d l1 res → P (.seqL p) d l res
 | seqL_bad {d p l r c lb} : skip l = 47 :: r → P .step d r (.bad c lb) → P (.seqL p) d l (.bad c lb)
 | seqL_end {d p l} : hd (skip l) ≠ 47 → P (.seqL p) d l (.ok p (skip l))
 | step_ok {d l p l1 res} : P .back d l (.ok p l1) → P (.stepL p) d l1 res → P .step d l res
 | step_bad {d l c lb} : P .back d l (.bad c lb) → P .step d l (.bad c lb)
 | stepL_more {d p l c r res} : skip l = c :: r → (c = 42 ∨ c = 43 ∨ c = 63) → P (.stepL (pK (signK c.toNat) [p])) d r res → P (.stepL p) d l res
 | stepL_end {d p l} : hd (skip l) ≠ 42 → hd (skip l) ≠ 43 → hd (skip l) ≠ 63 → P (.stepL p) d l (.ok p (skip l))
 | up_ok {d l r p l1} : skip l = 94 :: r → d < 5 → P .back (d + 1) r (.ok p l1) → P .back d l (.ok (pK 2 [p]) l1)
 | up_bad {d l r c lb} : skip l = 94 :: r → d < 5 → P .back (d + 1) r (.bad c lb) → P .back d l (.bad c lb)
 | full {d l c r} : skip l = c :: r → (c = 94 ∨ c = 40) → 5 ≤ d → P .back d l (.bad 3 (skip l))
 | iri_ok {d l r t l1} : skip l = 60 :: r → Y3e l = some (t, l1) → P .back d l (.ok (pIri t) l1)
 | iri_bad {d l r} : skip l = 60 :: r → Y3e l = none → P .back d l (.bad 2 (skip l))
 | not_ {d l r res} : skip l = 33 :: r → P .nt d r res → P .back d l res
 | br_ok {d l r p l1 r1} : skip l = 40 :: r → d < 5 → P .path (d + 1) r (.ok p l1) → skip l1 = 41 :: r1 → P .back d l (.ok p r1)
 | br_bad {d l r c lb} : skip l = 40 :: r → d < 5 → P .path (d + 1) r (.bad c lb) → P .back d l (.bad c lb)
 | br_open {d l r p l1} : skip l = 40 :: r → d < 5 → P .path (d + 1) r (.ok p l1) → hd (skip l1) ≠ 41 → P .back d l (.bad 2 (skip l1))
 | other {d l} : hd (skip l) ≠ 94 → hd (skip l) ≠ 60 → hd (skip l) ≠ 33 → hd (skip l) ≠ 40 → P .back d l (.bad 2 (skip l))
 | nt_one {d l t l1} : hd l ≠ 40 → Y3e l = some (t, l1) → P .nt d l (.ok (pNot [t]) l1)
 | nt_one_bad {d l} : hd l ≠ 40 → Y3e l = none → P .nt d l (.bad 2 (skip l))
 | nt_br {d r t l1 res} : Y3e r = some (t, l1) → P (.notL [t]) d l1 res → P .nt d (40 :: r) res
 | nt_br_bad {d r} : Y3e r = none → P .nt d (40 :: r) (.bad 2 (skip r))
 | notL_more {d ts l r t l1 res} : skip l = 124 :: r → Y3e r = some (t, l1) → P (.notL (ts ++ [t])) d l1 res → P (.notL ts) d l res
 | notL_bad {d ts l r} : skip l = 124 :: r → Y3e r = none → P (.notL ts) d l (.bad 2 (skip r))
 | notL_end {d ts l r} : skip l = 41 :: r → P (.notL ts) d l (.ok (pNot ts) r)
 | notL_open {d ts l} : hd (skip l) ≠ 124 → hd (skip l) ≠ 41 → P (.notL ts) d l (.bad 2 (skip l))
abbrev R8 := Int × ByteArray × List ByteArray × List S37 × ByteArray × Int × Int × Int
def RI (s : ByteArray) (o : Int) : Res → R8 → Prop
 | .ok p l, r => Suf s l ∧ r = (p.f0, p.f1, p.f2, p.f3, s, ps s l, 0, o)
 | .bad c l, r => c ≠ 0 ∧ Suf s l ∧ ∃ l' q0 q1 q2 q3, Suf s l' ∧ r = (q0, q1, q2, q3, s, ps s l', c, ps s l)
def fI (s : ByteArray) (o : Int) : NT → Nat → List UInt8 → Nat → Option R8
 | .path, d, l => fun k => Yp.f k s (ps s l) 0 o (d : Int)
 | .pathL p, d, l => fun k => Yp.l0 k (d : Int) s (ps s l) 0 o p.f0 p.f1 p.f2 p.f3
 | .seq, d, l => fun k => Yz.f k s (ps s l) 0 o (d : Int)
 | .seqL p, d, l => fun k => Yz.l0 k (d : Int) s (ps s l) 0 o p.f0 p.f1 p.f2 p.f3
 | .step, d, l => fun k => Yk.f k s (ps s l) 0 o (d : Int)
 | .stepL p, d, l => fun k => Yk.l0 k s (ps s l) 0 o p.f0 p.f1 p.f2 p.f3
 | .back, d, l => fun k => YI.f k s (ps s l) 0 o (d : Int)
 | .nt, d, l => fun k => Yb.f k s (ps s l) 0 o
 | .notL ts, d, l => fun k => Yb.l0 k s (ps s l) 0 o 8 ts
def fits (s : ByteArray) : NT → List UInt8 → Prop
 | .notL ts, l => ts.length + l.length ≤ s.size
 | _, _ => True
theorem Y3b {d : Nat} (h : d < 5) : wrap64 ((d : Int) + 1) = ((d + 1 : Nat) : Int) := by unfold wrap64; omega
theorem Y1F {s : ByteArray} {o : Int} {c : Int} {l : List UInt8} (hc : c ≠ 0) (h : Suf s l) {l' : List UInt8} (h' : Suf s l') (q0 : Int) (q1 : ByteArray) (q2 : List ByteArray) (q3 : List S37) :
  RI s o (.bad c l) (q0, q1, q2, q3, s, ps s l', c, ps s l) := ⟨hc, h, l', q0, q1, q2, q3, h', rfl⟩
theorem pathL_e (s : ByteArray) (d a e o : Int) (he : e ≠ 0) (q0 : Int) (q1 : ByteArray) (q2 : List ByteArray) (q3 : List S37) :
  Ev (fun k => Yp.l0 k d s a e o q0 q1 q2 q3) (q0, q1, q2, q3, s, a, e, o) := by
 refine Ev.up ?_
 simp only [Yp.l0]
 exact Z2u
theorem seqL_e (s : ByteArray) (d a e o : Int) (he : e ≠ 0) (q0 : Int) (q1 : ByteArray) (q2 : List ByteArray) (q3 : List S37) :
  Ev (fun k => Yz.l0 k d s a e o q0 q1 q2 q3) (q0, q1, q2, q3, s, a, e, o) := by
 refine Ev.up ?_
 simp only [Yz.l0]
 exact Z2u
theorem stepL_e (s : ByteArray) (a e o : Int) (he : e ≠ 0) (q0 : Int) (q1 : ByteArray) (q2 : List ByteArray) (q3 : List S37) :
  Ev (fun k => Yk.l0 k s a e o q0 q1 q2 q3) (q0, q1, q2, q3, s, a, e, o) := by
 refine Ev.up ?_
 simp only [Yk.l0]
 exact Ev.bind (next_e s a e o he) (Ev.congr (fun k => by simp) (Ev.now _))
theorem notL_e (s : ByteArray) (a e o : Int) (he : e ≠ 0) (q0 : Int) (ts : List ByteArray) :
  Ev (fun k => Yb.l0 k s a e o q0 ts) (q0, ⟨#[]⟩, ts, [], s, a, e, o) := by
 refine Ev.up ?_
 simp only [Yb.l0]
 refine Ev.bind (is_e s a e o _ he (by decide)) ?_
 simp only [Bool.false_eq_true, if_false]
 exact Ev.bind (must_e s a e o _ he (by decide)) (Ev.congr (fun k => by simp) (Ev.now _))
set_option maxHeartbeats 4000000 in
theorem impl (s : ByteArray) (hs : s.size ≤ 100000000) (o : Int) {m d l res} (h : P m d l res) : Suf s l → d ≤ 5 → fits s m l → ∃ r, Ev (fI s o m d l) r ∧ RI s o res r := by
 induction h with
 | path_ok _ _ ih1 ih2 =>
  intro hl hd _
  obtain ⟨r, h1, hl1, rfl⟩ := ih1 hl hd trivial
  obtain ⟨r2, h2, hr⟩ := ih2 hl1 hd trivial
  refine ⟨r2, Ev.up ?_, hr⟩
  simp only [fI, Yp.f]
  exact Z2f
 | path_bad _ ih1 =>
  intro hl hd _
  obtain ⟨r, h1, hc, hl1, l', q0, q1, q2, q3, hl', rfl⟩ := ih1 hl hd trivial
  refine ⟨_, Ev.up ?_, Y1F hc hl1 hl' q0 q1 q2 q3⟩
  simp only [fI, Yp.f]
  exact Ev.bind h1 (pathL_e s _ _ _ _ hc _ _ _ _)
 | @pathL_more d p l r0 q l1 res hk _ _ ih1 ih2 =>
  intro hl hd _
  cases p; cases q
  have hq := hl.skip; rw [hk] at hq
  obtain ⟨r, h1, hl1, rfl⟩ := ih1 hq.tail hd trivial
  obtain ⟨r2, h2, hr⟩ := ih2 hl1 hd trivial
  refine ⟨r2, Ev.up ?_, hr⟩
  simp only [fI, Yp.l0]
  refine Ev.bind (Y3Y hs o hl hk 124 rfl) ?_
  simp only [if_true]
  exact Z2f
 | @pathL_bad d p l r0 c lb hk _ ih1 =>
  intro hl hd _
  cases p with | mk p0 p1 p2 p3 =>
  have hq := hl.skip; rw [hk] at hq
  obtain ⟨r, h1, hc, hl1, l', q0, q1, q2, q3, hl', rfl⟩ := ih1 hq.tail hd trivial
  refine ⟨_, Ev.up ?_, Y1F hc hl1 hl' 4 ⟨#[]⟩ [] [⟨p0, p1, p2, p3⟩, ⟨q0, q1, q2, q3⟩]⟩
  simp only [fI, Yp.l0]
  refine Ev.bind (Y3Y hs o hl hk 124 rfl) ?_
  simp only [if_true]
  exact Ev.bind h1 (pathL_e s _ _ _ _ hc _ _ _ _)
 | pathL_end hk =>
  intro hl hd _
  refine ⟨_, Ev.up ?_, hl.skip, rfl⟩
  simp only [fI, Yp.l0]
  exact Ev.bind (is_no hs o hl 124 hk) (Ev.congr (fun k => by simp) (Ev.now _))
 | seq_ok _ _ ih1 ih2 =>
  intro hl hd _
  obtain ⟨r, h1, hl1, rfl⟩ := ih1 hl hd trivial
  obtain ⟨r2, h2, hr⟩ := ih2 hl1 hd trivial
  refine ⟨r2, Ev.up ?_, hr⟩
  simp only [fI, Yz.f]
  exact Z2f
 | seq_bad _ ih1 =>
  intro hl hd _
  obtain ⟨r, h1, hc, hl1, l', q0, q1, q2, q3, hl', rfl⟩ := ih1 hl hd trivial
  refine ⟨_, Ev.up ?_, Y1F hc hl1 hl' q0 q1 q2 q3⟩
  simp only [fI, Yz.f]
  exact Ev.bind h1 (seqL_e s _ _ _ _ hc _ _ _ _)
 | @seqL_more d p l r0 q l1 res hk _ _ ih1 ih2 =>
  intro hl hd _
  cases p; cases q
  have hq := hl.skip; rw [hk] at hq
  obtain ⟨r, h1, hl1, rfl⟩ := ih1 hq.tail hd trivial
  obtain ⟨r2, h2, hr⟩ := ih2 hl1 hd trivial
  refine ⟨r2, Ev.up ?_, hr⟩
  simp only [fI, Yz.l0]
  refine Ev.bind (Y3Y hs o hl hk 47 rfl) ?_
  simp only [if_true]
  exact Z2f
 | @seqL_bad d p l r0 c lb hk _ ih1 =>
  intro hl hd _
  cases p with | mk p0 p1 p2 p3 =>
  have hq := hl.skip; rw [hk] at hq
  obtain ⟨r, h1, hc, hl1, l', q0, q1, q2, q3, hl', rfl⟩ := ih1 hq.tail hd trivial
  refine ⟨_, Ev.up ?_, Y1F hc hl1 hl' 3 ⟨#[]⟩ [] [⟨p0, p1, p2, p3⟩, ⟨q0, q1, q2, q3⟩]⟩
  simp only [fI, Yz.l0]
  refine Ev.bind (Y3Y hs o hl hk 47 rfl) ?_
  simp only [if_true]
  exact Ev.bind h1 (seqL_e s _ _ _ _ hc _ _ _ _)
 | seqL_end hk =>
  intro hl hd _
  refine ⟨_, Ev.up ?_, hl.skip, rfl⟩
  simp only [fI, Yz.l0]
  exact Ev.bind (is_no hs o hl 47 hk) (Ev.congr (fun k => by simp) (Ev.now _))
 | step_ok _ _ ih1 ih2 =>
  intro hl hd _
  obtain ⟨r, h1, hl1, rfl⟩ := ih1 hl hd trivial
  obtain ⟨r2, h2, hr⟩ := ih2 hl1 hd trivial
  refine ⟨r2, Ev.up ?_, hr⟩
  simp only [fI, Yk.f]
  exact Z2f
 | step_bad _ ih1 =>
  intro hl hd _
  obtain ⟨r, h1, hc, hl1, l', q0, q1, q2, q3, hl', rfl⟩ := ih1 hl hd trivial
  refine ⟨_, Ev.up ?_, Y1F hc hl1 hl' q0 q1 q2 q3⟩
  simp only [fI, Yk.f]
  exact Ev.bind h1 (stepL_e s _ _ _ hc _ _ _ _)
 | @stepL_more d p l c r0 res hk hc _ ih1 =>
  intro hl hd _
  have hq := hl.skip; rw [hk] at hq
  obtain ⟨r, h1, hr⟩ := ih1 hq.tail hd trivial
  refine ⟨r, Ev.up ?_, hr⟩
  simp only [fI, Yk.l0]
  have hn := Y1N s hs o l hl
  rw [hk] at hn
  refine Ev.bind hn ?_
  have e0 : wrap64 (ps s (c :: r0) + 1) = ps s r0 := Y1h hs hq
  cases p
  rcases hc with rfl | rfl | rfl
  ·have e1 : Print.hd (42 :: r0) = 42 := rfl
   simp only [e1, if_true]
   refine Ev.up ?_
   simp only [Yk.j1, e0]
   exact h1
  ·have e1 : Print.hd (43 :: r0) = 43 := rfl
   have e2 : ¬ ((43 : Int) = 42) := by decide
   simp only [e1, e2, if_true, if_false]
   refine Ev.up ?_
   simp only [Yk.j2, e0]
   exact h1
  ·have e1 : Print.hd (63 :: r0) = 63 := rfl
   have e2 : ¬ ((63 : Int) = 42) := by decide
   have e3 : ¬ ((63 : Int) = 43) := by decide
   simp only [e1, e2, e3, if_true, if_false]
   refine Ev.up ?_
   simp only [Yk.j3, e0]
   exact h1
 | stepL_end hk1 hk2 hk3 =>
  intro hl hd _
  refine ⟨_, Ev.up ?_, hl.skip, rfl⟩
  simp only [fI, Yk.l0]
  refine Ev.bind (Y1N s hs o _ hl) ?_
  simp only [hk1, hk2, hk3, if_false]
  exact Z1X
 | @up_ok d l r0 p l1 hk hd5 _ ih1 =>
  intro hl hd _
  cases p
  have hq := hl.skip; rw [hk] at hq
  obtain ⟨r, h1, hl1, rfl⟩ := ih1 hq.tail (by omega) trivial
  refine ⟨_, Ev.up ?_, hl1, rfl⟩
  simp only [fI, YI.f]
  have hn := Y1N s hs o _ hl
  rw [hk] at hn
  refine Ev.bind hn ?_
  simp only [show Print.hd (94 :: r0) = 94 from rfl, if_true, Y1h hs hq, Y3b hd5, if_neg (show ¬ ((d : Nat) : Int) ≥ 5 by omega)]
  exact Z23
 | @up_bad d l r0 c lb hk hd5 _ ih1 =>
  intro hl hd _
  have hq := hl.skip; rw [hk] at hq
  obtain ⟨r, h1, hc, hl1, l', q0, q1, q2, q3, hl', rfl⟩ := ih1 hq.tail (by omega) trivial
  refine ⟨_, Ev.up ?_, Y1F hc hl1 hl' 2 ⟨#[]⟩ [] [⟨q0, q1, q2, q3⟩]⟩
  simp only [fI, YI.f]
  have hn := Y1N s hs o _ hl
  rw [hk] at hn
  refine Ev.bind hn ?_
  simp only [show Print.hd (94 :: r0) = 94 from rfl, if_true, Y1h hs hq, Y3b hd5, if_neg (show ¬ ((d : Nat) : Int) ≥ 5 by omega)]
  exact Z23
 | @full d l c r0 hk hc h5 =>
  intro hl hd _
  refine ⟨_, ?_, Y1F (l' := skip l) (by decide) hl.skip hl.skip 0 ⟨#[]⟩ [] []⟩
  have hn := Y1N s hs o _ hl
  have hge : ((d : Nat) : Int) ≥ 5 := by omega
  refine Ev.up ?_
  simp only [fI, YI.f]
  refine Ev.bind hn ?_
  rw [hk]
  rcases hc with rfl | rfl
  ·simp only [show Print.hd (94 :: r0) = 94 from rfl, if_true, if_pos hge, Y2O]
   exact Z1X
  ·simp only [show Print.hd (40 :: r0) = 40 from rfl, if_neg (show ¬ ((40 : Int) = 94) by decide)]
   refine Ev.bind (a := (0, ⟨#[]⟩, [], [], s, ps s (40 :: r0), 3, ps s (40 :: r0))) (Ev.up ?_) (Ev.now _)
   simp only [YK.f]
   have hq := hl.skip; rw [hk] at hq
   have hn2 := Y1N s hs o _ hq
   refine Ev.bind hn2 ?_
   have e4 : skip (40 :: r0) = 40 :: r0 := rfl
   rw [e4]
   simp only [show Print.hd (40 :: r0) = 40 from rfl, if_neg (show ¬ ((40 : Int) = 60) by decide), if_neg (show ¬ ((40 : Int) = 33) by decide), if_true, if_pos hge, Y2O]
   exact Z1X
 | @iri_ok d l r0 t l1 hk hi =>
  intro hl hd _
  have hq := hl.skip; rw [hk] at hq
  obtain ⟨h1, hl1, _⟩ := Y2s hs o hl hi
  refine ⟨_, Ev.up ?_, hl1, rfl⟩
  simp only [fI, YI.f]
  have hn := Y1N s hs o _ hl
  rw [hk] at hn
  refine Ev.bind hn ?_
  simp only [show Print.hd (60 :: r0) = 60 from rfl, if_neg (show ¬ ((60 : Int) = 94) by decide)]
  refine Ev.bind (a := (1, t, [], [], s, ps s l1, 0, o)) (Ev.up ?_) (Ev.now _)
  simp only [YK.f]
  have hn2 := Y1N s hs o _ hq
  refine Ev.bind hn2 ?_
  have e4 : skip (60 :: r0) = 60 :: r0 := rfl
  rw [e4]
  simp only [show Print.hd (60 :: r0) = 60 from rfl, if_true]
  have hi2 : Y3e (60 :: r0) = some (t, l1) := by unfold Y3e at hi ⊢; rw [hk] at hi; rw [e4]; exact hi
  exact Ev.bind (Y2s hs o hq hi2).1 (Ev.now _)
 | @iri_bad d l r0 hk hi =>
  intro hl hd _
  have hq := hl.skip; rw [hk] at hq
  refine ⟨_, Ev.up ?_, Y1F (l' := skip l) (by decide) hl.skip hl.skip 1 ⟨#[]⟩ [] []⟩
  simp only [fI, YI.f]
  have hn := Y1N s hs o _ hl
  refine Ev.bind hn ?_
  rw [hk]
  simp only [show Print.hd (60 :: r0) = 60 from rfl, if_neg (show ¬ ((60 : Int) = 94) by decide)]
  refine Ev.bind (a := (1, ⟨#[]⟩, [], [], s, ps s (60 :: r0), 2, ps s (60 :: r0))) (Ev.up ?_) (Ev.now _)
  simp only [YK.f]
  have hn2 := Y1N s hs o _ hq
  refine Ev.bind hn2 ?_
  have e4 : skip (60 :: r0) = 60 :: r0 := rfl
  rw [e4]
  simp only [show Print.hd (60 :: r0) = 60 from rfl, if_true]
  have hi2 : Y3e (60 :: r0) = none := by unfold Y3e at hi ⊢; rw [hk] at hi; rw [e4]; exact hi
  have := Y3H hs o hq hi2
  rw [e4] at this
  exact Ev.bind this (Ev.now _)
 | @not_ d l r0 res hk _ ih1 =>
  intro hl hd _
  have hq := hl.skip; rw [hk] at hq
  obtain ⟨r, h1, hr⟩ := ih1 hq.tail hd trivial
  refine ⟨r, Ev.up ?_, hr⟩
  simp only [fI, YI.f]
  have hn := Y1N s hs o _ hl
  rw [hk] at hn
  refine Ev.bind hn ?_
  simp only [show Print.hd (33 :: r0) = 33 from rfl, if_neg (show ¬ ((33 : Int) = 94) by decide)]
  refine Ev.bind (a := r) (Ev.up ?_) (Ev.now _)
  simp only [YK.f]
  have hn2 := Y1N s hs o _ hq
  refine Ev.bind hn2 ?_
  have e4 : skip (33 :: r0) = 33 :: r0 := rfl
  rw [e4]
  simp only [show Print.hd (33 :: r0) = 33 from rfl, if_neg (show ¬ ((33 : Int) = 60) by decide), if_true, Y1h hs hq]
  exact Z23
 | @br_ok d l r0 p l1 r1 hk hd5 _ hk2 ih1 =>
  intro hl hd _
  have hq := hl.skip; rw [hk] at hq
  obtain ⟨r, h1, hl1, rfl⟩ := ih1 hq.tail (by omega) trivial
  have hq1 := hl1.skip; rw [hk2] at hq1
  refine ⟨_, Ev.up ?_, hq1.tail, rfl⟩
  simp only [fI, YI.f]
  have hn := Y1N s hs o _ hl
  rw [hk] at hn
  refine Ev.bind hn ?_
  simp only [show Print.hd (40 :: r0) = 40 from rfl, if_neg (show ¬ ((40 : Int) = 94) by decide)]
  refine Ev.bind (a := (p.f0, p.f1, p.f2, p.f3, s, ps s r1, 0, o)) (Ev.up ?_) (Ev.now _)
  simp only [YK.f]
  have hn2 := Y1N s hs o _ hq
  refine Ev.bind hn2 ?_
  have e4 : skip (40 :: r0) = 40 :: r0 := rfl
  rw [e4]
  simp only [show Print.hd (40 :: r0) = 40 from rfl, if_neg (show ¬ ((40 : Int) = 60) by decide), if_neg (show ¬ ((40 : Int) = 33) by decide), if_true, Y1h hs hq, Y3b hd5, if_neg (show ¬ ((d : Nat) : Int) ≥ 5 by omega)]
  refine Ev.bind h1 ?_
  exact Ev.bind (Y5A hs o hl1 hk2 41 rfl) (Ev.now _)
 | @br_bad d l r0 c lb hk hd5 _ ih1 =>
  intro hl hd _
  have hq := hl.skip; rw [hk] at hq
  obtain ⟨r, h1, hc, hl1, l', q0, q1, q2, q3, hl', rfl⟩ := ih1 hq.tail (by omega) trivial
  refine ⟨_, Ev.up ?_, Y1F hc hl1 hl' q0 q1 q2 q3⟩
  simp only [fI, YI.f]
  have hn := Y1N s hs o _ hl
  rw [hk] at hn
  refine Ev.bind hn ?_
  simp only [show Print.hd (40 :: r0) = 40 from rfl, if_neg (show ¬ ((40 : Int) = 94) by decide)]
  refine Ev.bind (a := (q0, q1, q2, q3, s, ps s l', c, ps s lb)) (Ev.up ?_) (Ev.now _)
  simp only [YK.f]
  have hn2 := Y1N s hs o _ hq
  refine Ev.bind hn2 ?_
  have e4 : skip (40 :: r0) = 40 :: r0 := rfl
  rw [e4]
  simp only [show Print.hd (40 :: r0) = 40 from rfl, if_neg (show ¬ ((40 : Int) = 60) by decide), if_neg (show ¬ ((40 : Int) = 33) by decide), if_true, Y1h hs hq, Y3b hd5, if_neg (show ¬ ((d : Nat) : Int) ≥ 5 by omega)]
  refine Ev.bind h1 ?_
  exact Ev.bind (must_e s _ _ _ 41 hc (by decide)) (Ev.now _)
 | @br_open d l r0 p l1 hk hd5 _ hk2 ih1 =>
  intro hl hd _
  have hq := hl.skip; rw [hk] at hq
  obtain ⟨r, h1, hl1, rfl⟩ := ih1 hq.tail (by omega) trivial
  refine ⟨_, Ev.up ?_, Y1F (l' := skip l1) (by decide) hl1.skip hl1.skip p.f0 p.f1 p.f2 p.f3⟩
  simp only [fI, YI.f]
  have hn := Y1N s hs o _ hl
  rw [hk] at hn
  refine Ev.bind hn ?_
  simp only [show Print.hd (40 :: r0) = 40 from rfl, if_neg (show ¬ ((40 : Int) = 94) by decide)]
  refine Ev.bind (a := (p.f0, p.f1, p.f2, p.f3, s, ps s (skip l1), 2, ps s (skip l1))) (Ev.up ?_) (Ev.now _)
  simp only [YK.f]
  have hn2 := Y1N s hs o _ hq
  refine Ev.bind hn2 ?_
  have e4 : skip (40 :: r0) = 40 :: r0 := rfl
  rw [e4]
  simp only [show Print.hd (40 :: r0) = 40 from rfl, if_neg (show ¬ ((40 : Int) = 60) by decide), if_neg (show ¬ ((40 : Int) = 33) by decide), if_true, Y1h hs hq, Y3b hd5, if_neg (show ¬ ((d : Nat) : Int) ≥ 5 by omega)]
  refine Ev.bind h1 ?_
  exact Ev.bind (must_no hs o hl1 41 hk2) (Ev.now _)
 | @other d l k1 k2 k3 k4 =>
  intro hl hd _
  refine ⟨_, Ev.up ?_, Y1F (l' := skip l) (by decide) hl.skip hl.skip 0 ⟨#[]⟩ [] []⟩
  simp only [fI, YI.f]
  refine Ev.bind (Y1N s hs o _ hl) ?_
  simp only [if_neg k1]
  refine Ev.bind (a := (0, ⟨#[]⟩, [], [], s, ps s (skip l), 2, ps s (skip l))) (Ev.up ?_) (Ev.now _)
  simp only [YK.f]
  refine Ev.bind (Y1N s hs o _ hl.skip) ?_
  rw [Y1e]
  simp only [if_neg k2, if_neg k3, if_neg k4, Y2O]
  exact Z1X
 | @nt_one d l t l1 hk hi =>
  intro hl hd _
  obtain ⟨h1, hl1, _⟩ := Y2s hs o hl hi
  refine ⟨_, ?_, hl1, rfl⟩
  simp only [fI, Yb.f]
  have hj : Ev (fun k => Yb.j0 k true s (ps s l) 0 o 8) (8, ⟨#[]⟩, [t], [], s, ps s l1, 0, o) := by
   refine Ev.up ?_
   simp only [Yb.j0, if_true]
   exact Z23
  cases l with
  | nil => simp only [if_pos (show ps s [] ≥ (s.size : Int) by rw [Y2w]; omega)]; exact hj
  | cons c r =>
   have hb : (bt s (ps s (c :: r)) != 40) = true := by rw [Y3F hl]; exact bne_iff_ne.mpr hk
   simp only [if_neg (show ¬ ps s (c :: r) ≥ (s.size : Int) by have := Y2t s c r; omega), if_pos hl.ps0, if_pos (Y2t s c r), hb]
   exact hj
 | @nt_one_bad d l hk hi =>
  intro hl hd _
  have h1 := Y3H hs o hl hi
  refine ⟨_, ?_, Y1F (l' := skip l) (by decide) hl.skip hl.skip 8 ⟨#[]⟩ [⟨#[]⟩] []⟩
  simp only [fI, Yb.f]
  have hj : Ev (fun k => Yb.j0 k true s (ps s l) 0 o 8) (8, ⟨#[]⟩, [⟨#[]⟩], [], s, ps s (skip l), 2, ps s (skip l)) := by
   refine Ev.up ?_
   simp only [Yb.j0, if_true]
   exact Z23
  cases l with
  | nil => simp only [if_pos (show ps s [] ≥ (s.size : Int) by rw [Y2w]; omega)]; exact hj
  | cons c r =>
   have hb : (bt s (ps s (c :: r)) != 40) = true := by rw [Y3F hl]; exact bne_iff_ne.mpr hk
   simp only [if_neg (show ¬ ps s (c :: r) ≥ (s.size : Int) by have := Y2t s c r; omega), if_pos hl.ps0, if_pos (Y2t s c r), hb]
   exact hj
 | @nt_br d r0 t l1 res hi _ ih1 =>
  intro hl hd _
  obtain ⟨h1, hl1, hle⟩ := Y2s hs o hl.tail hi
  have hlen := hl.len
  simp only [List.length_cons] at hlen
  obtain ⟨r, h2, hr⟩ := ih1 hl1 hd (by simp only [fits, List.length_cons, List.length_nil]; omega)
  refine ⟨r, ?_, hr⟩
  have hb : (bt s (ps s (40 :: r0)) != 40) = false := by rw [Y3F hl]; rfl
  simp only [fI, Yb.f, if_neg (show ¬ ps s (40 :: r0) ≥ (s.size : Int) by have := Y2t s 40 r0; omega), if_pos hl.ps0, if_pos (Y2t s 40 r0), hb]
  refine Ev.up ?_
  simp only [Yb.j0, Bool.false_eq_true, if_false, Y1h hs hl]
  exact Z2f
 | @nt_br_bad d r0 hi =>
  intro hl hd _
  have h1 := Y3H hs o hl.tail hi
  refine ⟨_, ?_, Y1F (l' := skip r0) (by decide) hl.tail.skip hl.tail.skip 8 ⟨#[]⟩ [⟨#[]⟩] []⟩
  have hb : (bt s (ps s (40 :: r0)) != 40) = false := by rw [Y3F hl]; rfl
  simp only [fI, Yb.f, if_neg (show ¬ ps s (40 :: r0) ≥ (s.size : Int) by have := Y2t s 40 r0; omega), if_pos hl.ps0, if_pos (Y2t s 40 r0), hb]
  refine Ev.up ?_
  simp only [Yb.j0, Bool.false_eq_true, if_false, Y1h hs hl]
  exact Ev.bind h1 (notL_e s _ 2 _ (by decide) _ _)
 | @notL_more d ts l r0 t l1 res hk hi _ ih1 =>
  intro hl hd hf
  have hq := hl.skip; rw [hk] at hq
  have hle0 := Y2Z l
  rw [hk] at hle0
  obtain ⟨h1, hl1, hle⟩ := Y2s hs o hq.tail hi
  simp only [fits, List.length_cons] at hf hle0
  obtain ⟨r, h2, hr⟩ := ih1 hl1 hd Z2q
  refine ⟨r, Ev.up ?_, hr⟩
  simp only [fI, Yb.l0]
  refine Ev.bind (Y3Y hs o hl hk 124 rfl) ?_
  simp only [if_true]
  refine Ev.bind h1 ?_
  simp only [if_pos (show ts.length < 8796093022208 by omega)]
  exact h2
 | @notL_bad d ts l r0 hk hi =>
  intro hl hd hf
  have hq := hl.skip; rw [hk] at hq
  simp only [fits] at hf
  refine ⟨_, Ev.up ?_, Y1F (l' := skip r0) (by decide) hq.tail.skip hq.tail.skip 8 ⟨#[]⟩ (ts ++ [⟨#[]⟩]) []⟩
  simp only [fI, Yb.l0]
  refine Ev.bind (Y3Y hs o hl hk 124 rfl) ?_
  simp only [if_true]
  refine Ev.bind (Y3H hs o hq.tail hi) ?_
  simp only [if_pos (show ts.length < 8796093022208 by omega)]
  exact notL_e s _ 2 _ (by decide) _ _
 | @notL_end d ts l r0 hk =>
  intro hl hd hf
  have hq := hl.skip; rw [hk] at hq
  refine ⟨_, Ev.up ?_, hq.tail, rfl⟩
  simp only [fI, Yb.l0]
  refine Ev.bind (is_no hs o hl 124 (by rw [hk]; show (41 : Int) ≠ 124; decide)) ?_
  simp only [Bool.false_eq_true, if_false]
  exact Ev.bind (Y5A hs o hl.skip (by rw [Y1e]; exact hk) 41 rfl) (Ev.now _)
 | @notL_open d ts l k1 k2 =>
  intro hl hd hf
  refine ⟨_, Ev.up ?_, Y1F (l' := skip l) (by decide) hl.skip hl.skip 8 ⟨#[]⟩ ts []⟩
  simp only [fI, Yb.l0]
  refine Ev.bind (is_no hs o hl 124 k1) ?_
  simp only [Bool.false_eq_true, if_false]
  refine Ev.bind (must_no hs o hl.skip 41 (by rw [Y1e]; exact k2)) ?_
  rw [Y1e]
  exact Z1X
def fR (s : ByteArray) (o : Int) : NT → Nat → List UInt8 → Nat → Option R8
 | .path, d, l => fun k => Yl.f k s (ps s l) 0 o (d : Int)
 | .pathL p, d, l => fun k => Yl.l0 k (d : Int) s (ps s l) 0 o p.f0 p.f1 p.f2 p.f3
 | .seq, d, l => fun k => Yn.f k s (ps s l) 0 o (d : Int)
 | .seqL p, d, l => fun k => Yn.l0 k (d : Int) s (ps s l) 0 o p.f0 p.f1 p.f2 p.f3
 | .step, d, l => fun k => Yf.f k s (ps s l) 0 o (d : Int)
 | .stepL p, d, l => fun k => Yf.l0 k s (ps s l) 0 o p.f0 p.f1 p.f2 p.f3
 | .back, d, l => fun k => Yi.f k s (ps s l) 0 o (d : Int)
 | .nt, d, l => fun k => Y2.f k s (ps s l) 0 o
 | .notL ts, d, l => fun k => Y2.l0 k s (ps s l) 0 o 8 ts
theorem Y5C {s : ByteArray} (hs : s.size ≤ 100000000) (d e o : Int) (he : e ≠ 0) {l : List UInt8} (h : Suf s l) (q0 : Int) (q1 : ByteArray) (q2 : List ByteArray) (q3 : List S37) :
  Ev (fun k => Yl.l0 k d s (ps s l) e o q0 q1 q2 q3) (q0, q1, q2, q3, s, ps s (skip l), e, o) := by
 refine Ev.up ?_
 simp only [Yl.l0]
 exact Z2s
theorem rseqL_e {s : ByteArray} (hs : s.size ≤ 100000000) (d e o : Int) (he : e ≠ 0) {l : List UInt8} (h : Suf s l) (q0 : Int) (q1 : ByteArray) (q2 : List ByteArray) (q3 : List S37) :
  Ev (fun k => Yn.l0 k d s (ps s l) e o q0 q1 q2 q3) (q0, q1, q2, q3, s, ps s (skip l), e, o) := by
 refine Ev.up ?_
 simp only [Yn.l0]
 exact Z2s
theorem rstepL_e {s : ByteArray} (hs : s.size ≤ 100000000) (e o : Int) (he : e ≠ 0) {l : List UInt8} (h : Suf s l) (q0 : Int) (q1 : ByteArray) (q2 : List ByteArray) (q3 : List S37) :
  Ev (fun k => Yf.l0 k s (ps s l) e o q0 q1 q2 q3) (q0, q1, q2, q3, s, ps s (skip l), e, o) := by
 refine Ev.up ?_
 simp only [Yf.l0]
 refine Ev.bind (Y43 s hs e o _ he (by decide) h) ?_
 simp only [Bool.false_eq_true, if_false]
 refine Ev.bind (Y43 s hs e o _ he (by decide) h.skip) ?_
 simp only [Bool.false_eq_true, if_false, Y1e]
 refine Ev.bind (Y43 s hs e o _ he (by decide) h.skip) ?_
 simp only [Bool.false_eq_true, if_false, Y1e]
 exact Z1X
theorem rnotL_e {s : ByteArray} (hs : s.size ≤ 100000000) (e o : Int) (he : e ≠ 0) {l : List UInt8} (h : Suf s l) (q0 : Int) (ts : List ByteArray) :
  Ev (fun k => Y2.l0 k s (ps s l) e o q0 ts) (0, ⟨#[]⟩, [], [], s, ps s (skip l), e, o) := by
 refine Ev.up ?_
 simp only [Y2.l0]
 refine Ev.bind (Y43 s hs e o _ he (by decide) h) ?_
 simp only [Bool.false_eq_true, if_false]
 refine Ev.bind (Y43 s hs e o _ he (by decide) h.skip) ?_
 simp only [Bool.false_eq_true, if_false, Y1e, fail_e _ _ _ _ _ _ he]
 exact Z1X
set_option maxHeartbeats 4000000 in
theorem refn (s : ByteArray) (hs : s.size ≤ 100000000) (o : Int) {m d l res} (h : P m d l res) : Suf s l → d ≤ 5 → fits s m l → ∃ r, Ev (fR s o m d l) r ∧ RI s o res r := by
 induction h with
 | path_ok _ _ ih1 ih2 =>
  intro hl hd _
  obtain ⟨r, h1, hl1, rfl⟩ := ih1 hl hd trivial
  obtain ⟨r2, h2, hr⟩ := ih2 hl1 hd trivial
  refine ⟨r2, Ev.up ?_, hr⟩
  simp only [fR, Yl.f]
  exact Z2f
 | path_bad _ ih1 =>
  intro hl hd _
  obtain ⟨r, h1, hc, hl1, l', q0, q1, q2, q3, hl', rfl⟩ := ih1 hl hd trivial
  refine ⟨_, Ev.up ?_, Y1F hc hl1 hl'.skip q0 q1 q2 q3⟩
  simp only [fR, Yl.f]
  exact Ev.bind h1 (Y5C hs _ _ _ hc hl' _ _ _ _)
 | @pathL_more d p l r0 q l1 res hk _ _ ih1 ih2 =>
  intro hl hd _
  cases p; cases q
  have hq := hl.skip; rw [hk] at hq
  obtain ⟨r, h1, hl1, rfl⟩ := ih1 hq.tail hd trivial
  obtain ⟨r2, h2, hr⟩ := ih2 hl1 hd trivial
  refine ⟨r2, Ev.up ?_, hr⟩
  simp only [fR, Yl.l0]
  refine Ev.bind (Y2a hs o hl hk 124 rfl) ?_
  simp only [if_true]
  exact Z2f
 | @pathL_bad d p l r0 c lb hk _ ih1 =>
  intro hl hd _
  cases p with | mk p0 p1 p2 p3 =>
  have hq := hl.skip; rw [hk] at hq
  obtain ⟨r, h1, hc, hl1, l', q0, q1, q2, q3, hl', rfl⟩ := ih1 hq.tail hd trivial
  refine ⟨_, Ev.up ?_, Y1F hc hl1 hl'.skip 4 ⟨#[]⟩ [] [⟨p0, p1, p2, p3⟩, ⟨q0, q1, q2, q3⟩]⟩
  simp only [fR, Yl.l0]
  refine Ev.bind (Y2a hs o hl hk 124 rfl) ?_
  simp only [if_true]
  exact Ev.bind h1 (Y5C hs _ _ _ hc hl' _ _ _ _)
 | pathL_end hk =>
  intro hl hd _
  refine ⟨_, Ev.up ?_, hl.skip, rfl⟩
  simp only [fR, Yl.l0]
  exact Ev.bind (Y2r hs o hl 124 hk) (Ev.congr (fun k => by simp) (Ev.now _))
 | seq_ok _ _ ih1 ih2 =>
  intro hl hd _
  obtain ⟨r, h1, hl1, rfl⟩ := ih1 hl hd trivial
  obtain ⟨r2, h2, hr⟩ := ih2 hl1 hd trivial
  refine ⟨r2, Ev.up ?_, hr⟩
  simp only [fR, Yn.f]
  exact Z2f
 | seq_bad _ ih1 =>
  intro hl hd _
  obtain ⟨r, h1, hc, hl1, l', q0, q1, q2, q3, hl', rfl⟩ := ih1 hl hd trivial
  refine ⟨_, Ev.up ?_, Y1F hc hl1 hl'.skip q0 q1 q2 q3⟩
  simp only [fR, Yn.f]
  exact Ev.bind h1 (rseqL_e hs _ _ _ hc hl' _ _ _ _)
 | @seqL_more d p l r0 q l1 res hk _ _ ih1 ih2 =>
  intro hl hd _
  cases p; cases q
  have hq := hl.skip; rw [hk] at hq
  obtain ⟨r, h1, hl1, rfl⟩ := ih1 hq.tail hd trivial
  obtain ⟨r2, h2, hr⟩ := ih2 hl1 hd trivial
  refine ⟨r2, Ev.up ?_, hr⟩
  simp only [fR, Yn.l0]
  refine Ev.bind (Y2a hs o hl hk 47 rfl) ?_
  simp only [if_true]
  exact Z2f
 | @seqL_bad d p l r0 c lb hk _ ih1 =>
  intro hl hd _
  cases p with | mk p0 p1 p2 p3 =>
  have hq := hl.skip; rw [hk] at hq
  obtain ⟨r, h1, hc, hl1, l', q0, q1, q2, q3, hl', rfl⟩ := ih1 hq.tail hd trivial
  refine ⟨_, Ev.up ?_, Y1F hc hl1 hl'.skip 3 ⟨#[]⟩ [] [⟨p0, p1, p2, p3⟩, ⟨q0, q1, q2, q3⟩]⟩
  simp only [fR, Yn.l0]
  refine Ev.bind (Y2a hs o hl hk 47 rfl) ?_
  simp only [if_true]
  exact Ev.bind h1 (rseqL_e hs _ _ _ hc hl' _ _ _ _)
 | seqL_end hk =>
  intro hl hd _
  refine ⟨_, Ev.up ?_, hl.skip, rfl⟩
  simp only [fR, Yn.l0]
  exact Ev.bind (Y2r hs o hl 47 hk) (Ev.congr (fun k => by simp) (Ev.now _))
 | step_ok _ _ ih1 ih2 =>
  intro hl hd _
  obtain ⟨r, h1, hl1, rfl⟩ := ih1 hl hd trivial
  obtain ⟨r2, h2, hr⟩ := ih2 hl1 hd trivial
  refine ⟨r2, Ev.up ?_, hr⟩
  simp only [fR, Yf.f]
  exact Z2f
 | step_bad _ ih1 =>
  intro hl hd _
  obtain ⟨r, h1, hc, hl1, l', q0, q1, q2, q3, hl', rfl⟩ := ih1 hl hd trivial
  refine ⟨_, Ev.up ?_, Y1F hc hl1 hl'.skip q0 q1 q2 q3⟩
  simp only [fR, Yf.f]
  exact Ev.bind h1 (rstepL_e hs _ _ hc hl' _ _ _ _)
 | @stepL_more d p l c r0 res hk hc _ ih1 =>
  intro hl hd _
  have hq := hl.skip; rw [hk] at hq
  obtain ⟨r, h1, hr⟩ := ih1 hq.tail hd trivial
  refine ⟨r, Ev.up ?_, hr⟩
  simp only [fR, Yf.l0]
  cases p
  have hk2 : skip (skip l) = c :: r0 := by rw [Y1e]; exact hk
  have hk3 : skip (c :: r0) = c :: r0 := by rw [← hk, Y1e]
  rcases hc with rfl | rfl | rfl
  ·refine Ev.bind (Y2a hs o hl hk 42 rfl) ?_
   simp only [if_true]
   exact h1
  ·refine Ev.bind (Y2r hs o hl 42 (by rw [hk]; show (43 : Int) ≠ 42; decide)) ?_
   simp only [Bool.false_eq_true, if_false]
   refine Ev.bind (Y2a hs o hl.skip hk2 43 rfl) ?_
   simp only [if_true]
   exact h1
  ·refine Ev.bind (Y2r hs o hl 42 (by rw [hk]; show (63 : Int) ≠ 42; decide)) ?_
   simp only [Bool.false_eq_true, if_false]
   refine Ev.bind (Y2r hs o hl.skip 43 (by rw [hk2]; show (63 : Int) ≠ 43; decide)) ?_
   simp only [Bool.false_eq_true, if_false, Y1e]
   refine Ev.bind (Y2a hs o hl.skip hk2 63 rfl) ?_
   simp only [if_true]
   exact h1
 | stepL_end hk1 hk2 hk3 =>
  intro hl hd _
  refine ⟨_, Ev.up ?_, hl.skip, rfl⟩
  simp only [fR, Yf.l0]
  refine Ev.bind (Y2r hs o hl 42 hk1) ?_
  simp only [Bool.false_eq_true, if_false]
  refine Ev.bind (Y2r hs o hl.skip 43 (by rw [Y1e]; exact hk2)) ?_
  simp only [Bool.false_eq_true, if_false, Y1e]
  refine Ev.bind (Y2r hs o hl.skip 63 (by rw [Y1e]; exact hk3)) ?_
  simp only [Bool.false_eq_true, if_false, Y1e]
  exact Z1X
 | @up_ok d l r0 p l1 hk hd5 _ ih1 =>
  intro hl hd _
  cases p
  have hq := hl.skip; rw [hk] at hq
  obtain ⟨r, h1, hl1, rfl⟩ := ih1 hq.tail (by omega) trivial
  refine ⟨_, Ev.up ?_, hl1, rfl⟩
  simp only [fR, Yi.f]
  have hn := Y2S s hs o _ hl
  rw [hk] at hn
  refine Ev.bind hn ?_
  simp only [show Print.hd (94 :: r0) = 94 from rfl, if_true]
  refine Ev.up ?_
  simp only [Yi.j0, show ((94 : Int) == 94) = true from rfl, if_true, Y1h hs hq, Y3b hd5, if_neg (show ¬ ((d : Nat) : Int) ≥ 5 by omega)]
  exact Z23
 | @up_bad d l r0 c lb hk hd5 _ ih1 =>
  intro hl hd _
  have hq := hl.skip; rw [hk] at hq
  obtain ⟨r, h1, hc, hl1, l', q0, q1, q2, q3, hl', rfl⟩ := ih1 hq.tail (by omega) trivial
  refine ⟨_, Ev.up ?_, Y1F hc hl1 hl' 2 ⟨#[]⟩ [] [⟨q0, q1, q2, q3⟩]⟩
  simp only [fR, Yi.f]
  have hn := Y2S s hs o _ hl
  rw [hk] at hn
  refine Ev.bind hn ?_
  simp only [show Print.hd (94 :: r0) = 94 from rfl, if_true]
  refine Ev.up ?_
  simp only [Yi.j0, show ((94 : Int) == 94) = true from rfl, if_true, Y1h hs hq, Y3b hd5, if_neg (show ¬ ((d : Nat) : Int) ≥ 5 by omega)]
  exact Z23
 | @full d l c r0 hk hc h5 =>
  intro hl hd _
  refine ⟨_, ?_, Y1F (l' := skip l) (by decide) hl.skip hl.skip 0 ⟨#[]⟩ [] []⟩
  have hn := Y2S s hs o _ hl
  have hge : ((d : Nat) : Int) ≥ 5 := by omega
  refine Ev.up ?_
  simp only [fR, Yi.f]
  refine Ev.bind hn ?_
  rw [hk]
  rcases hc with rfl | rfl
  ·simp only [show Print.hd (94 :: r0) = 94 from rfl, if_true]
   refine Ev.up ?_
   simp only [Yi.j0, show ((94 : Int) == 94) = true from rfl, if_true, if_pos hge, Y3A]
   exact Z1X
  ·simp only [show Print.hd (40 :: r0) = 40 from rfl, if_neg (show ¬ ((40 : Int) = 94) by decide)]
   refine Ev.up ?_
   simp only [Yi.j0, show ((40 : Int) == 40) = true from rfl, if_true, if_pos hge, Y3A]
   exact Z1X
 | @iri_ok d l r0 t l1 hk hi =>
  intro hl hd _
  have hq := hl.skip; rw [hk] at hq
  have h1 := Y2Y hs o hl hi
  obtain ⟨_, hl1, _⟩ := Y2s hs o hl hi
  refine ⟨_, Ev.up ?_, hl1, rfl⟩
  simp only [fR, Yi.f]
  have hn := Y2S s hs o _ hl
  rw [hk] at hn
  refine Ev.bind hn ?_
  simp only [show Print.hd (60 :: r0) = 60 from rfl, if_neg (show ¬ ((60 : Int) = 94) by decide)]
  refine Ev.up ?_
  simp only [Yi.j0, show ((60 : Int) == 40) = false from rfl, Bool.false_eq_true, if_false, if_neg (show ¬ ((60 : Int) = 33) by decide)]
  have e4 : skip (60 :: r0) = 60 :: r0 := rfl
  have hi2 : Y3e (60 :: r0) = some (t, l1) := by unfold Y3e at hi ⊢; rw [hk] at hi; rw [e4]; exact hi
  exact Ev.bind (Y2Y hs o hq hi2) (Ev.now _)
 | @iri_bad d l r0 hk hi =>
  intro hl hd _
  have hq := hl.skip; rw [hk] at hq
  refine ⟨_, Ev.up ?_, Y1F (l' := skip l) (by decide) hl.skip hl.skip 1 ⟨#[]⟩ [] []⟩
  simp only [fR, Yi.f]
  have hn := Y2S s hs o _ hl
  refine Ev.bind hn ?_
  rw [hk]
  simp only [show Print.hd (60 :: r0) = 60 from rfl, if_neg (show ¬ ((60 : Int) = 94) by decide)]
  refine Ev.up ?_
  simp only [Yi.j0, show ((60 : Int) == 40) = false from rfl, Bool.false_eq_true, if_false, if_neg (show ¬ ((60 : Int) = 33) by decide)]
  have e4 : skip (60 :: r0) = 60 :: r0 := rfl
  have hi2 : Y3e (60 :: r0) = none := by unfold Y3e at hi ⊢; rw [hk] at hi; rw [e4]; exact hi
  have := Y2X hs o hq hi2
  rw [e4] at this
  exact Ev.bind this (Ev.now _)
 | @not_ d l r0 res hk _ ih1 =>
  intro hl hd _
  have hq := hl.skip; rw [hk] at hq
  obtain ⟨r, h1, hr⟩ := ih1 hq.tail hd trivial
  refine ⟨r, Ev.up ?_, hr⟩
  simp only [fR, Yi.f]
  have hn := Y2S s hs o _ hl
  rw [hk] at hn
  refine Ev.bind hn ?_
  simp only [show Print.hd (33 :: r0) = 33 from rfl, if_neg (show ¬ ((33 : Int) = 94) by decide)]
  refine Ev.up ?_
  simp only [Yi.j0, show ((33 : Int) == 40) = false from rfl, Bool.false_eq_true, if_false, if_true, Y1h hs hq]
  exact Z23
 | @br_ok d l r0 p l1 r1 hk hd5 _ hk2 ih1 =>
  intro hl hd _
  have hq := hl.skip; rw [hk] at hq
  obtain ⟨r, h1, hl1, rfl⟩ := ih1 hq.tail (by omega) trivial
  have hq1 := hl1.skip; rw [hk2] at hq1
  refine ⟨_, Ev.up ?_, hq1.tail, rfl⟩
  simp only [fR, Yi.f]
  have hn := Y2S s hs o _ hl
  rw [hk] at hn
  refine Ev.bind hn ?_
  simp only [show Print.hd (40 :: r0) = 40 from rfl, if_neg (show ¬ ((40 : Int) = 94) by decide)]
  refine Ev.up ?_
  simp only [Yi.j0, show ((40 : Int) == 40) = true from rfl, if_true, Y1h hs hq, Y3b hd5, if_neg (show ¬ ((d : Nat) : Int) ≥ 5 by omega), if_neg (show ¬ ((40 : Int) = 94) by decide)]
  refine Ev.bind h1 ?_
  refine Ev.bind (Y2a hs o hl1 hk2 41 rfl) ?_
  simp only [if_true]
  exact Z1X
 | @br_bad d l r0 c lb hk hd5 _ ih1 =>
  intro hl hd _
  have hq := hl.skip; rw [hk] at hq
  obtain ⟨r, h1, hc, hl1, l', q0, q1, q2, q3, hl', rfl⟩ := ih1 hq.tail (by omega) trivial
  refine ⟨_, Ev.up ?_, Y1F hc hl1 hl'.skip 0 ⟨#[]⟩ [] []⟩
  simp only [fR, Yi.f]
  have hn := Y2S s hs o _ hl
  rw [hk] at hn
  refine Ev.bind hn ?_
  simp only [show Print.hd (40 :: r0) = 40 from rfl, if_neg (show ¬ ((40 : Int) = 94) by decide)]
  refine Ev.up ?_
  simp only [Yi.j0, show ((40 : Int) == 40) = true from rfl, if_true, Y1h hs hq, Y3b hd5, if_neg (show ¬ ((d : Nat) : Int) ≥ 5 by omega), if_neg (show ¬ ((40 : Int) = 94) by decide)]
  refine Ev.bind h1 ?_
  refine Ev.bind (Y43 s hs _ _ 41 hc (by decide) hl') ?_
  simp only [Bool.false_eq_true, if_false, fail_e _ _ _ _ _ _ hc]
  exact Z1X
 | @br_open d l r0 p l1 hk hd5 _ hk2 ih1 =>
  intro hl hd _
  have hq := hl.skip; rw [hk] at hq
  obtain ⟨r, h1, hl1, rfl⟩ := ih1 hq.tail (by omega) trivial
  refine ⟨_, Ev.up ?_, Y1F (l' := skip l1) (by decide) hl1.skip hl1.skip 0 ⟨#[]⟩ [] []⟩
  simp only [fR, Yi.f]
  have hn := Y2S s hs o _ hl
  rw [hk] at hn
  refine Ev.bind hn ?_
  simp only [show Print.hd (40 :: r0) = 40 from rfl, if_neg (show ¬ ((40 : Int) = 94) by decide)]
  refine Ev.up ?_
  simp only [Yi.j0, show ((40 : Int) == 40) = true from rfl, if_true, Y1h hs hq, Y3b hd5, if_neg (show ¬ ((d : Nat) : Int) ≥ 5 by omega), if_neg (show ¬ ((40 : Int) = 94) by decide)]
  refine Ev.bind h1 ?_
  refine Ev.bind (Y2r hs o hl1 41 hk2) ?_
  simp only [Bool.false_eq_true, if_false, Y3A]
  exact Z1X
 | @other d l k1 k2 k3 k4 =>
  intro hl hd _
  refine ⟨_, Ev.up ?_, Y1F (l' := skip l) (by decide) hl.skip hl.skip 1 ⟨#[]⟩ [] []⟩
  simp only [fR, Yi.f]
  refine Ev.bind (Y2S s hs o _ hl) ?_
  simp only [if_neg k1]
  refine Ev.up ?_
  have hn : Y3e (skip l) = none := by
   unfold Y3e
   rw [Y1e]
   cases e : skip l with
   | nil => rfl
   | cons c r =>
    have : ¬ c = 60 := by rintro rfl; rw [e] at k2; exact k2 rfl
    simp only [if_neg this]
  have b : (Print.hd (skip l) == 40) = false := beq_eq_false_iff_ne.mpr k4
  simp only [Yi.j0, b, Bool.false_eq_true, if_false, if_neg k3]
  refine Ev.bind (Y2X hs o hl.skip hn) ?_
  simp only [Y1e]
  exact Z1X
 | @nt_one d l t l1 hk hi =>
  intro hl hd _
  have h1 := Y2Y hs o hl hi
  obtain ⟨_, hl1, _⟩ := Y2s hs o hl hi
  refine ⟨_, ?_, hl1, rfl⟩
  simp only [fR, Y2.f]
  have hj : Ev (fun k => Y2.j0 k false s (ps s l) 0 o 8) (8, ⟨#[]⟩, [t], [], s, ps s l1, 0, o) := by
   refine Ev.up ?_
   simp only [Y2.j0, Bool.false_eq_true, if_false]
   exact Z23
  cases l with
  | nil => simp only [if_neg (show ¬ ps s [] < (s.size : Int) by rw [Y2w]; omega)]; exact hj
  | cons c r =>
   have hb : (bt s (ps s (c :: r)) == 40) = false := by rw [Y3F hl]; exact beq_eq_false_iff_ne.mpr hk
   simp only [if_pos (Y2t s c r), if_pos hl.ps0, hb]
   exact hj
 | @nt_one_bad d l hk hi =>
  intro hl hd _
  have h1 := Y2X hs o hl hi
  refine ⟨_, ?_, Y1F (l' := skip l) (by decide) hl.skip hl.skip 8 ⟨#[]⟩ [⟨#[]⟩] []⟩
  simp only [fR, Y2.f]
  have hj : Ev (fun k => Y2.j0 k false s (ps s l) 0 o 8) (8, ⟨#[]⟩, [⟨#[]⟩], [], s, ps s (skip l), 2, ps s (skip l)) := by
   refine Ev.up ?_
   simp only [Y2.j0, Bool.false_eq_true, if_false]
   exact Z23
  cases l with
  | nil => simp only [if_neg (show ¬ ps s [] < (s.size : Int) by rw [Y2w]; omega)]; exact hj
  | cons c r =>
   have hb : (bt s (ps s (c :: r)) == 40) = false := by rw [Y3F hl]; exact beq_eq_false_iff_ne.mpr hk
   simp only [if_pos (Y2t s c r), if_pos hl.ps0, hb]
   exact hj
 | @nt_br d r0 t l1 res hi _ ih1 =>
  intro hl hd _
  have h1 := Y2Y hs o hl.tail hi
  obtain ⟨_, hl1, hle⟩ := Y2s hs o hl.tail hi
  have hlen := hl.len
  simp only [List.length_cons] at hlen
  obtain ⟨r, h2, hr⟩ := ih1 hl1 hd (by simp only [fits, List.length_cons, List.length_nil]; omega)
  refine ⟨r, ?_, hr⟩
  have hb : (bt s (ps s (40 :: r0)) == 40) = true := by rw [Y3F hl]; rfl
  simp only [fR, Y2.f, if_pos (Y2t s 40 r0), if_pos hl.ps0, hb]
  refine Ev.up ?_
  simp only [Y2.j0, if_true, Y1h hs hl]
  exact Z2f
 | @nt_br_bad d r0 hi =>
  intro hl hd _
  have h1 := Y2X hs o hl.tail hi
  refine ⟨_, ?_, Y1F (l' := skip (skip r0)) (by decide) hl.tail.skip hl.tail.skip.skip 0 ⟨#[]⟩ [] []⟩
  have hb : (bt s (ps s (40 :: r0)) == 40) = true := by rw [Y3F hl]; rfl
  simp only [fR, Y2.f, if_pos (Y2t s 40 r0), if_pos hl.ps0, hb]
  refine Ev.up ?_
  simp only [Y2.j0, if_true, Y1h hs hl]
  exact Ev.bind h1 (rnotL_e hs 2 _ (by decide) hl.tail.skip _ _)
 | @notL_more d ts l r0 t l1 res hk hi _ ih1 =>
  intro hl hd hf
  have hq := hl.skip; rw [hk] at hq
  have hle0 := Y2Z l
  rw [hk] at hle0
  have h1 := Y2Y hs o hq.tail hi
  obtain ⟨_, hl1, hle⟩ := Y2s hs o hq.tail hi
  simp only [fits, List.length_cons] at hf hle0
  obtain ⟨r, h2, hr⟩ := ih1 hl1 hd Z2q
  refine ⟨r, Ev.up ?_, hr⟩
  simp only [fR, Y2.l0]
  refine Ev.bind (Y2a hs o hl hk 124 rfl) ?_
  simp only [if_true]
  refine Ev.bind h1 ?_
  simp only [if_pos (show ts.length < 8796093022208 by omega)]
  exact h2
 | @notL_bad d ts l r0 hk hi =>
  intro hl hd hf
  have hq := hl.skip; rw [hk] at hq
  simp only [fits] at hf
  refine ⟨_, Ev.up ?_, Y1F (l' := skip (skip r0)) (by decide) hq.tail.skip hq.tail.skip.skip 0 ⟨#[]⟩ [] []⟩
  simp only [fR, Y2.l0]
  refine Ev.bind (Y2a hs o hl hk 124 rfl) ?_
  simp only [if_true]
  refine Ev.bind (Y2X hs o hq.tail hi) ?_
  simp only [if_pos (show ts.length < 8796093022208 by omega)]
  exact rnotL_e hs 2 _ (by decide) hq.tail.skip _ _
 | @notL_end d ts l r0 hk =>
  intro hl hd hf
  have hq := hl.skip; rw [hk] at hq
  refine ⟨_, Ev.up ?_, hq.tail, rfl⟩
  simp only [fR, Y2.l0]
  refine Ev.bind (Y2r hs o hl 124 (by rw [hk]; show (41 : Int) ≠ 124; decide)) ?_
  simp only [Bool.false_eq_true, if_false]
  refine Ev.bind (Y2a hs o hl.skip (by rw [Y1e]; exact hk) 41 rfl) ?_
  simp only [if_true]
  exact Z1X
 | @notL_open d ts l k1 k2 =>
  intro hl hd hf
  refine ⟨_, Ev.up ?_, Y1F (l' := skip l) (by decide) hl.skip hl.skip 0 ⟨#[]⟩ [] []⟩
  simp only [fR, Y2.l0]
  refine Ev.bind (Y2r hs o hl 124 k1) ?_
  simp only [Bool.false_eq_true, if_false]
  refine Ev.bind (Y2r hs o hl.skip 41 (by rw [Y1e]; exact k2)) ?_
  simp only [Bool.false_eq_true, if_false, Y1e, Y3A]
  exact Z1X
theorem Y2V {l : List UInt8} {t : ByteArray} {l1 : List UInt8} (hi : Y3e l = some (t, l1)) : l1.length + 2 ≤ l.length := by
 obtain ⟨r, hk, hu, _⟩ := Y3X hi
 have hle := Y2Z l
 obtain ⟨hr, _⟩ := Y2u hu
 have := congrArg List.length hr
 rw [hk] at hle
 rw [List.length_append] at this
 simp only [List.length_cons] at this hle
 omega
theorem Y1x {l : List UInt8} {c : UInt8} {r : List UInt8} (h : skip l = c :: r) : r.length + 1 ≤ l.length := by
 have := Y2Z l
 rw [h] at this
 simpa using this
def Le (l : List UInt8) : Res → Prop
 | .ok _ l1 => l1.length ≤ l.length
 | .bad _ _ => True
theorem Le.up {l l' : List UInt8} {res : Res} (h : Le l' res) (hl : l'.length ≤ l.length) : Le l res := by
 cases res
 ·exact Nat.le_trans h hl
 ·trivial
theorem P.le {m d l res} (h : P m d l res) : Le l res := by
 induction h with
 | path_ok _ _ ih1 ih2 => exact ih2.up ih1
 | seq_ok _ _ ih1 ih2 => exact ih2.up ih1
 | step_ok _ _ ih1 ih2 => exact ih2.up ih1
 | pathL_more hk _ _ ih1 ih2 => exact ih2.up (Nat.le_trans ih1 Z1O)
 | seqL_more hk _ _ ih1 ih2 => exact ih2.up (Nat.le_trans ih1 Z1O)
 | stepL_more hk _ _ ih1 => exact ih1.up Z1O
 | not_ hk _ ih1 => exact ih1.up Z1O
 | nt_br hi _ ih1 => exact ih1.up (by have := Y2V hi; simp only [List.length_cons]; omega)
 | notL_more hk hi _ ih1 => exact ih1.up (by have := Y2V hi; have := Y1x hk; omega)
 | up_ok hk _ _ ih1 => exact Nat.le_trans ih1 Z1O
 | br_ok hk _ _ hk2 ih1 => exact Nat.le_trans (by have := Y1x hk2; omega) (Nat.le_trans ih1 Z1O)
 | pathL_end _ => exact Y2Z _
 | seqL_end _ => exact Y2Z _
 | stepL_end _ _ _ => exact Y2Z _
 | iri_ok _ hi => have := Y2V hi; show _ ≤ _; omega
 | nt_one _ hi => have := Y2V hi; show _ ≤ _; omega
 | notL_end hk => have := Y1x hk; show _ ≤ _; omega
 | _ => trivial
theorem Y2g {l : List UInt8} {n : Nat} (hn : 0 < n) (h : n < 256) (e : hd l = (n : Int)) : ∃ r, l = UInt8.ofNat n :: r := by
 cases l with
 | nil => simp only [hd] at e; omega
 | cons c r => exact ⟨r, by rw [(Y5a h).mp e]⟩
theorem total : ∀ n : Nat, ∀ l : List UInt8, l.length < n →
  (∀ d, ∃ res, P .path d l res) ∧ (∀ d p, ∃ res, P (.pathL p) d l res) ∧ (∀ d, ∃ res, P .seq d l res) ∧ (∀ d p, ∃ res, P (.seqL p) d l res) ∧
  (∀ d, ∃ res, P .step d l res) ∧ (∀ d p, ∃ res, P (.stepL p) d l res) ∧ (∀ d, ∃ res, P .back d l res) ∧ (∀ d, ∃ res, P .nt d l res) ∧ (∀ d ts, ∃ res, P (.notL ts) d l res)
 | 0, l, h => absurd h (Nat.not_lt_zero _)
 | n + 1, l, h => by
  have ih := total n
  have hnotL : ∀ l : List UInt8, l.length < n + 1 → ∀ d ts, ∃ res, P (.notL ts) d l res := by
   intro l h d ts
   by_cases h1 : hd (skip l) = 124
   ·obtain ⟨r, hr⟩ := Y2g (n := 124) (by omega) (by omega) h1
    cases hi : Y3e r with
    | none => exact ⟨_, .notL_bad hr hi⟩
    | some x =>
     obtain ⟨t, l1⟩ := x
     obtain ⟨res, hp⟩ := (ih l1 (by have := Y2V hi; have := Y1x hr; omega)).2.2.2.2.2.2.2.2 d (ts ++ [t])
     exact ⟨_, .notL_more hr hi hp⟩
   ·by_cases h2 : hd (skip l) = 41
    ·obtain ⟨r, hr⟩ := Y2g (n := 41) (by omega) (by omega) h2
     exact ⟨_, .notL_end hr⟩
    ·exact ⟨_, .notL_open h1 h2⟩
  have hnt : ∀ l : List UInt8, l.length < n + 1 → ∀ d, ∃ res, P .nt d l res := by
   intro l h d
   by_cases h1 : hd l = 40
   ·obtain ⟨r, rfl⟩ := Y2g (n := 40) (by omega) (by omega) h1
    cases hi : Y3e r with
    | none => exact ⟨_, .nt_br_bad hi⟩
    | some x =>
     obtain ⟨t, l1⟩ := x
     simp only [List.length_cons] at h
     obtain ⟨res, hp⟩ := (ih l1 (by have := Y2V hi; omega)).2.2.2.2.2.2.2.2 d [t]
     exact ⟨_, .nt_br hi hp⟩
   ·cases hi : Y3e l with
    | none => exact ⟨_, .nt_one_bad h1 hi⟩
    | some x => exact ⟨_, .nt_one h1 hi⟩
  have hback : ∀ l : List UInt8, l.length < n + 1 → ∀ d, ∃ res, P .back d l res := by
   intro l h d
   by_cases h1 : hd (skip l) = 94
   ·obtain ⟨r, hr⟩ := Y2g (n := 94) (by omega) (by omega) h1
    by_cases h5 : d < 5
    ·obtain ⟨res, hp⟩ := (ih r Z2o).2.2.2.2.2.2.1 (d + 1)
     cases res with
     | ok p l1 => exact ⟨_, .up_ok hr h5 hp⟩
     | bad c lb => exact ⟨_, .up_bad hr h5 hp⟩
    ·exact ⟨_, .full hr (Or.inl rfl) (by omega)⟩
   ·by_cases h2 : hd (skip l) = 60
    ·obtain ⟨r, hr⟩ := Y2g (n := 60) (by omega) (by omega) h2
     cases hi : Y3e l with
     | none => exact ⟨_, .iri_bad hr hi⟩
     | some x => exact ⟨_, .iri_ok hr hi⟩
    ·by_cases h3 : hd (skip l) = 33
     ·obtain ⟨r, hr⟩ := Y2g (n := 33) (by omega) (by omega) h3
      obtain ⟨res, hp⟩ := (ih r Z2o).2.2.2.2.2.2.2.1 d
      exact ⟨_, .not_ hr hp⟩
     ·by_cases h4 : hd (skip l) = 40
      ·obtain ⟨r, hr⟩ := Y2g (n := 40) (by omega) (by omega) h4
       by_cases h5 : d < 5
       ·obtain ⟨res, hp⟩ := (ih r Z2o).1 (d + 1)
        cases res with
        | bad c lb => exact ⟨_, .br_bad hr h5 hp⟩
        | ok p l1 =>
         by_cases h6 : hd (skip l1) = 41
         ·obtain ⟨r1, hr1⟩ := Y2g (n := 41) (by omega) (by omega) h6
          exact ⟨_, .br_ok hr h5 hp hr1⟩
         ·exact ⟨_, .br_open hr h5 hp h6⟩
       ·exact ⟨_, .full hr (Or.inr rfl) (by omega)⟩
      ·exact ⟨_, .other h1 h2 h3 h4⟩
  have hstepL : ∀ l : List UInt8, l.length < n + 1 → ∀ d p, ∃ res, P (.stepL p) d l res := by
   intro l h d p
   by_cases h0 : hd (skip l) = 42 ∨ hd (skip l) = 43 ∨ hd (skip l) = 63
   ·have hx : ∃ c r, skip l = c :: r ∧ (c = 42 ∨ c = 43 ∨ c = 63) := by
     rcases h0 with h0 | h0 | h0
     ·obtain ⟨r, hr⟩ := Y2g (n := 42) (by omega) (by omega) h0; exact ⟨_, r, hr, Or.inl rfl⟩
     ·obtain ⟨r, hr⟩ := Y2g (n := 43) (by omega) (by omega) h0; exact ⟨_, r, hr, Or.inr (Or.inl rfl)⟩
     ·obtain ⟨r, hr⟩ := Y2g (n := 63) (by omega) (by omega) h0; exact ⟨_, r, hr, Or.inr (Or.inr rfl)⟩
    obtain ⟨c, r, hr, hc⟩ := hx
    obtain ⟨res, hp⟩ := (ih r Z2o).2.2.2.2.2.1 d (pK (signK c.toNat) [p])
    exact ⟨_, .stepL_more hr hc hp⟩
   ·simp only [not_or] at h0
    exact ⟨_, .stepL_end h0.1 h0.2.1 h0.2.2⟩
  have hstep : ∀ l : List UInt8, l.length < n + 1 → ∀ d, ∃ res, P .step d l res := by
   intro l h d
   obtain ⟨res, hp⟩ := hback l h d
   cases res with
   | bad c lb => exact ⟨_, .step_bad hp⟩
   | ok p l1 =>
    have hle : l1.length ≤ l.length := hp.le
    obtain ⟨res, hp2⟩ := hstepL l1 (by omega) d p
    exact ⟨_, .step_ok hp hp2⟩
  have hseqL : ∀ l : List UInt8, l.length < n + 1 → ∀ d p, ∃ res, P (.seqL p) d l res := by
   intro l h d p
   by_cases h1 : hd (skip l) = 47
   ·obtain ⟨r, hr⟩ := Y2g (n := 47) (by omega) (by omega) h1
    have hl1 := Y1x hr
    obtain ⟨res, hp⟩ := hstep r (by omega) d
    cases res with
    | bad c lb => exact ⟨_, .seqL_bad hr hp⟩
    | ok q l1 =>
     have hle : l1.length ≤ r.length := hp.le
     obtain ⟨res, hp2⟩ := (ih l1 (by omega)).2.2.2.1 d (pK 3 [p, q])
     exact ⟨_, .seqL_more hr hp hp2⟩
   ·exact ⟨_, .seqL_end h1⟩
  have hseq : ∀ l : List UInt8, l.length < n + 1 → ∀ d, ∃ res, P .seq d l res := by
   intro l h d
   obtain ⟨res, hp⟩ := hstep l h d
   cases res with
   | bad c lb => exact ⟨_, .seq_bad hp⟩
   | ok p l1 =>
    have hle : l1.length ≤ l.length := hp.le
    obtain ⟨res, hp2⟩ := hseqL l1 (by omega) d p
    exact ⟨_, .seq_ok hp hp2⟩
  have hpathL : ∀ l : List UInt8, l.length < n + 1 → ∀ d p, ∃ res, P (.pathL p) d l res := by
   intro l h d p
   by_cases h1 : hd (skip l) = 124
   ·obtain ⟨r, hr⟩ := Y2g (n := 124) (by omega) (by omega) h1
    have hl1 := Y1x hr
    obtain ⟨res, hp⟩ := hseq r (by omega) d
    cases res with
    | bad c lb => exact ⟨_, .pathL_bad hr hp⟩
    | ok q l1 =>
     have hle : l1.length ≤ r.length := hp.le
     obtain ⟨res, hp2⟩ := (ih l1 (by omega)).2.1 d (pK 4 [p, q])
     exact ⟨_, .pathL_more hr hp hp2⟩
   ·exact ⟨_, .pathL_end h1⟩
  have hpath : ∀ l : List UInt8, l.length < n + 1 → ∀ d, ∃ res, P .path d l res := by
   intro l h d
   obtain ⟨res, hp⟩ := hseq l h d
   cases res with
   | bad c lb => exact ⟨_, .path_bad hp⟩
   | ok p l1 =>
    have hle : l1.length ≤ l.length := hp.le
    obtain ⟨res, hp2⟩ := hpathL l1 (by omega) d p
    exact ⟨_, .path_ok hp hp2⟩
  exact ⟨hpath l h, hpathL l h, hseq l h, hseqL l h, hstep l h, hstepL l h, hback l h, hnt l h, hnotL l h⟩
inductive Ans where
 | ok (p : S37)
 | bad (c at_ : Int)
def Ans.is (s : ByteArray) : Ans → Int × ByteArray × List ByteArray × List S37 × Int × Int → Prop
 | .ok p, r => r = (p.f0, p.f1, p.f2, p.f3, (s.size : Int), 0)
 | .bad c a, r => r = (0, ⟨#[]⟩, [], [], a, c)
inductive Whole (s : ByteArray) : Ans → Prop
 | long : s.size > 600 → Whole s (.bad 4 0)
 | ok {p l} : s.size ≤ 600 → P .path 0 s.data.toList (.ok p l) → skip l = [] → Whole s (.ok p)
 | bad {c lb} : s.size ≤ 600 → P .path 0 s.data.toList (.bad c lb) → Whole s (.bad c (ps s lb))
 | rest {p l} : s.size ≤ 600 → P .path 0 s.data.toList (.ok p l) → skip l ≠ [] → Whole s (.bad 2 (ps s (skip l)))
theorem Y5b (s : ByteArray) : ∃ a, Whole s a := by
 by_cases h : s.size > 600
 ·exact ⟨_, .long h⟩
 ·obtain ⟨res, hp⟩ := (total (s.data.toList.length + 1) s.data.toList (by omega)).1 0
  cases res with
  | bad c lb => exact ⟨_, .bad (by omega) hp⟩
  | ok p l =>
   by_cases h2 : skip l = []
   ·exact ⟨_, .ok (by omega) hp h2⟩
   ·exact ⟨_, .rest (by omega) hp h2⟩
theorem path_i (s : ByteArray) {a : Ans} (h : Whole s a) : ∃ r, Ev (fun k => YJ.f k s) r ∧ a.is s r := by
 cases h with
 | long h =>
  refine ⟨_, ?_, rfl⟩
  unfold YJ.f
  simp only [if_pos (show (s.size : Int) > 600 by omega)]
  exact Z1X
 | @ok p l hs hp h2 =>
  obtain ⟨r, h1, hl, rfl⟩ := impl s (by omega) 0 hp (Suf.whole s) (by omega) trivial
  refine ⟨_, ?_, rfl⟩
  simp only [fI, Y32] at h1
  unfold YJ.f
  simp only [if_neg (show ¬ (s.size : Int) > 600 by omega)]
  refine Ev.bind h1 ?_
  have hn := Y1N s (by omega) 0 l hl
  rw [h2] at hn
  refine Ev.bind hn ?_
  simp only [hd, if_true]
  refine Ev.up ?_
  simp only [YJ.j0, Y2w, decide_eq_false (show ¬ (s.size : Int) < s.size by omega), Bool.false_eq_true, if_false, if_true]
  exact Z1X
 | @bad c lb hs hp =>
  obtain ⟨r, h1, hc, hl, l', q0, q1, q2, q3, hl', rfl⟩ := impl s (by omega) 0 hp (Suf.whole s) (by omega) trivial
  refine ⟨_, ?_, rfl⟩
  simp only [fI, Y32] at h1
  unfold YJ.f
  simp only [if_neg (show ¬ (s.size : Int) > 600 by omega)]
  refine Ev.bind h1 ?_
  refine Ev.bind (next_e s _ _ _ hc) ?_
  simp only [if_true, if_neg hc]
  refine Ev.up ?_
  simp only [YJ.j0, Bool.false_eq_true, if_false, if_neg hc]
  exact Z1X
 | @rest p l hs hp h2 =>
  obtain ⟨r, h1, hl, rfl⟩ := impl s (by omega) 0 hp (Suf.whole s) (by omega) trivial
  refine ⟨_, ?_, rfl⟩
  simp only [fI, Y32] at h1
  unfold YJ.f
  simp only [if_neg (show ¬ (s.size : Int) > 600 by omega)]
  refine Ev.bind h1 ?_
  refine Ev.bind (Y1N s (by omega) 0 l hl) ?_
  have h20 : (2 : Int) ≠ 0 := by decide
  cases e : skip l with
  | nil => exact absurd e h2
  | cons c r =>
   by_cases hc : hd (c :: r) = 0
   ·simp only [hc, if_true]
    refine Ev.up ?_
    simp only [YJ.j0, decide_eq_true (Y2t s c r), if_true, Y2O, Option.bind_some, if_neg h20]
    exact Z1X
   ·simp only [if_neg hc]
    refine Ev.up ?_
    simp only [YJ.j0, if_true, Y2O, Option.bind_some, if_neg h20]
    exact Z1X
theorem path_r (s : ByteArray) {a : Ans} (h : Whole s a) : ∃ r, Ev (fun k => YD.f k s) r ∧ a.is s r := by
 cases h with
 | long h =>
  refine ⟨_, ?_, rfl⟩
  unfold YD.f
  simp only [if_pos (show (s.size : Int) > 600 by omega)]
  exact Z1X
 | @ok p l hs hp h2 =>
  obtain ⟨r, h1, hl, rfl⟩ := refn s (by omega) 0 hp (Suf.whole s) (by omega) trivial
  refine ⟨_, ?_, rfl⟩
  simp only [fR, Y32] at h1
  unfold YD.f
  simp only [if_neg (show ¬ (s.size : Int) > 600 by omega)]
  refine Ev.bind h1 ?_
  have hn := Y2S s (by omega) 0 l hl
  rw [h2] at hn
  refine Ev.bind hn ?_
  simp only [hd, if_true]
  refine Ev.up ?_
  simp only [YD.j0, Y2w, decide_eq_false (show ¬ (s.size : Int) < s.size by omega), Bool.false_eq_true, if_false, if_true]
  exact Z1X
 | @bad c lb hs hp =>
  obtain ⟨r, h1, hc, hl, l', q0, q1, q2, q3, hl', rfl⟩ := refn s (by omega) 0 hp (Suf.whole s) (by omega) trivial
  refine ⟨_, ?_, rfl⟩
  simp only [fR, Y32] at h1
  unfold YD.f
  simp only [if_neg (show ¬ (s.size : Int) > 600 by omega)]
  refine Ev.bind h1 ?_
  refine Ev.bind (Y58 s (by omega) _ _ hc l' hl') ?_
  simp only [if_true, if_neg hc]
  refine Ev.up ?_
  simp only [YD.j0, Bool.false_eq_true, if_false, if_neg hc]
  exact Z1X
 | @rest p l hs hp h2 =>
  obtain ⟨r, h1, hl, rfl⟩ := refn s (by omega) 0 hp (Suf.whole s) (by omega) trivial
  refine ⟨_, ?_, rfl⟩
  simp only [fR, Y32] at h1
  unfold YD.f
  simp only [if_neg (show ¬ (s.size : Int) > 600 by omega)]
  refine Ev.bind h1 ?_
  refine Ev.bind (Y2S s (by omega) 0 l hl) ?_
  have h20 : (2 : Int) ≠ 0 := by decide
  cases e : skip l with
  | nil => exact absurd e h2
  | cons c r =>
   simp only [if_true]
   refine Ev.up ?_
   simp only [YD.j0, decide_eq_true (Y2t s c r), if_true, Y3A, Option.bind_some, if_neg h20]
   exact Z1X
inductive Y4Y : S37 → Prop
 | mk {a b c d} : c.length ≤ 1000000 → d.length ≤ 1000000 → (∀ q ∈ d, Y4Y q) → Y4Y ⟨a, b, c, d⟩
theorem Y3a {a b : ByteArray} : a.toList = b.toList ↔ a = b := by
 rw [Lib.toList_data, Lib.toList_data]
 exact ⟨Y5f, fun h => by rw [h]⟩
theorem Y5D {i n : Nat} (h : i < n) (hn : n ≤ 1000000) : wrap64 ((i : Int) + 1) = ((i + 1 : Nat) : Int) := by unfold wrap64; omega
theorem Y3C {xs : List ByteArray} {i : Nat} (h : i < xs.length) : Y2D ByteArray.empty xs (i : Int) = xs[i] := by
 unfold Y2D; simp [List.getD_eq_getElem?_getD, List.getElem?_eq_getElem h]
theorem Y3B {xs : List S37} {i : Nat} (h : i < xs.length) : Yh xs (i : Int) = xs[i] := by
 unfold Yh; simp [List.getD_eq_getElem?_getD, List.getElem?_eq_getElem h]
theorem Y2z {α : Type} {xs ys : List α} {i : Nat} (h : i < xs.length) (h' : i < ys.length) : xs.drop i = ys.drop i ↔ xs[i] = ys[i] ∧ xs.drop (i + 1) = ys.drop (i + 1) := by
 rw [List.drop_eq_getElem_cons h, List.drop_eq_getElem_cons h', List.cons.injEq]
def Y4l {α : Type} (g : Nat → Option Bool) (a b : α) : Prop := (a = b → Ev g true) ∧ (a ≠ b → Ev g false)
theorem equal_l (xs ys : List ByteArray) (hl : xs.length = ys.length) (hn : xs.length ≤ 1000000) : ∀ d i : Nat, i + d = xs.length →
  Y4l (fun k => Yo.l0 k xs ys (xs.length : Int) (i : Int)) (xs.drop i) (ys.drop i)
 | 0, i, h => by
  refine ⟨fun _ => Ev.up ?_, fun q => absurd Z1S q⟩
  simp only [Yo.l0, if_neg (show ¬ (i : Int) < (xs.length : Int) by omega)]
  exact Z1X
 | d + 1, i, h => by
  have h1 : i < xs.length := by omega
  have h2 : i < ys.length := by omega
  obtain ⟨t1, t2⟩ := equal_l xs ys hl hn d (i + 1) (by omega)
  by_cases e : xs[i] = ys[i]
  ·have st : ∀ r, Ev (fun k => Yo.l0 k xs ys (xs.length : Int) ((i + 1 : Nat) : Int)) r → Ev (fun k => Yo.l0 k xs ys (xs.length : Int) (i : Int)) r := by
    intro r hr
    refine Ev.up ?_
    simp only [Yo.l0, if_pos (show (i : Int) < (xs.length : Int) by omega), if_pos (show (0 : Int) ≤ (i : Int) by omega), if_pos (show (i : Int) < (ys.length : Int) by omega), Y3C h1, Y3C h2, if_pos (Y3a.mpr e), Y5D h1 hn]
    exact hr
   exact Z2p
  ·refine ⟨fun q => absurd ((Y2z h1 h2).mp q).1 e, fun _ => Ev.up ?_⟩
   simp only [Yo.l0, if_pos (show (i : Int) < (xs.length : Int) by omega), if_pos (show (0 : Int) ≤ (i : Int) by omega), if_pos (show (i : Int) < (ys.length : Int) by omega), Y3C h1, Y3C h2, if_neg (fun w => e (Y3a.mp w))]
   exact Z1X
theorem equal_f (xs ys : List ByteArray) (hn : xs.length ≤ 1000000) : Y4l (fun k => Yo.f k xs ys) xs ys := by
 by_cases hl : xs.length = ys.length
 ·have := equal_l xs ys hl hn xs.length 0 (by omega)
  simp only [Yo.f, if_pos (show (xs.length : Int) = (ys.length : Int) by omega)]
  exact this
 ·simp only [Yo.f, if_neg (show ¬ (xs.length : Int) = (ys.length : Int) by omega)]
  exact ⟨fun q => absurd (by rw [q]) hl, fun _ => Ev.now _⟩
theorem s37_eq {p q : S37} : p = q ↔ p.f0 = q.f0 ∧ p.f1 = q.f1 ∧ p.f2 = q.f2 ∧ p.f3 = q.f3 := by
 cases p; cases q; simp
def sameI (p q : S37) (k : Nat) : Option Bool := YO.f k p.f0 p.f1 p.f2 p.f3 q.f0 q.f1 q.f2 q.f3
def Y4T (p q : S37) (k : Nat) : Option Bool := Y5.f k p.f0 p.f1 p.f2 p.f3 q.f0 q.f1 q.f2 q.f3
theorem kids_i (xs ys : List S37) (hl : xs.length = ys.length) (hn : xs.length ≤ 1000000) (ih : ∀ p ∈ xs, ∀ q, Y4l (sameI p q) p q) : ∀ d i : Nat, i + d = xs.length →
  Y4l (fun k => YZ.l0 k ys xs (xs.length : Int) (i : Int)) (xs.drop i) (ys.drop i)
 | 0, i, h => by
  refine ⟨fun _ => Ev.up ?_, fun q => absurd Z1S q⟩
  simp only [YZ.l0, if_neg (show ¬ (i : Int) < (xs.length : Int) by omega)]
  exact Z1X
 | d + 1, i, h => by
  have h1 : i < xs.length := by omega
  have h2 : i < ys.length := by omega
  obtain ⟨t1, t2⟩ := kids_i xs ys hl hn ih d (i + 1) (by omega)
  obtain ⟨s1, s2⟩ := ih xs[i] (List.getElem_mem h1) ys[i]
  by_cases e : xs[i] = ys[i]
  ·have st : ∀ r, Ev (fun k => YZ.l0 k ys xs (xs.length : Int) ((i + 1 : Nat) : Int)) r → Ev (fun k => YZ.l0 k ys xs (xs.length : Int) (i : Int)) r := by
    intro r hr
    refine Ev.up ?_
    simp only [YZ.l0, if_pos (show (i : Int) < (xs.length : Int) by omega), if_pos (show (0 : Int) ≤ (i : Int) by omega), if_pos (show (i : Int) < (ys.length : Int) by omega), Y3B h1, Y3B h2]
    refine Ev.bind (s1 e) ?_
    simp only [if_true, Y5D h1 hn]
    exact hr
   exact Z2p
  ·refine ⟨fun q => absurd ((Y2z h1 h2).mp q).1 e, fun _ => Ev.up ?_⟩
   simp only [YZ.l0, if_pos (show (i : Int) < (xs.length : Int) by omega), if_pos (show (0 : Int) ≤ (i : Int) by omega), if_pos (show (i : Int) < (ys.length : Int) by omega), Y3B h1, Y3B h2]
   refine Ev.bind (s2 e) ?_
   simp only [Bool.false_eq_true, if_false]
   exact Z1X
theorem same_i {p : S37} (hp : Y4Y p) : ∀ q, Y4l (sameI p q) p q := by
 induction hp with
 | @mk a b c d hc hd _ ih =>
  intro q
  have kf : Y4l (fun k => YZ.f k d q.f3) d q.f3 := by
   by_cases hl : d.length = q.f3.length
   ·have := kids_i d q.f3 hl hd ih d.length 0 (by omega)
    refine ⟨fun w => Ev.up ?_, fun w => Ev.up ?_⟩
    ·simp only [YZ.f, if_pos (show (d.length : Int) = (q.f3.length : Int) by omega)]; exact this.1 w
    ·simp only [YZ.f, if_pos (show (d.length : Int) = (q.f3.length : Int) by omega)]; exact this.2 w
   ·refine ⟨fun w => absurd (by rw [w]) hl, fun _ => Ev.up ?_⟩
    simp only [YZ.f, if_neg (show ¬ (d.length : Int) = (q.f3.length : Int) by omega)]
    exact Z1X
  have ef := equal_f c q.f2 hc
  constructor
  ·rintro rfl
   refine Ev.up ?_
   simp only [sameI, YO.f, if_true]
   refine Ev.bind (ef.1 rfl) ?_
   simp only [if_true]
   exact Ev.bind (kf.1 rfl) (Ev.now _)
  ·intro ne
   refine Ev.up ?_
   simp only [sameI, YO.f]
   by_cases h0 : a = q.f0
   ·by_cases h1 : b = q.f1
    ·simp only [if_pos h0, if_pos (Y3a.mpr h1)]
     by_cases h2 : c = q.f2
     ·refine Ev.bind (ef.1 h2) ?_
      simp only [if_true]
      exact Ev.bind (kf.2 (fun h3 => ne (s37_eq.mpr ⟨h0, h1, h2, h3⟩))) (Ev.now _)
     ·refine Ev.bind (ef.2 h2) ?_
      simp only [Bool.false_eq_true, if_false]
      exact Z1X
    ·simp only [if_pos h0, if_neg (fun w => h1 (Y3a.mp w))]
     exact Z1X
   ·simp only [if_neg h0]
    exact Z1X
theorem texts_r (p q : S37) (hl : p.f2.length = q.f2.length) (hn : p.f2.length ≤ 1000000) {g : Nat → Option Bool} (hg : g = fun k => Y5.l1 k 0 p.f0 p.f1 p.f2 p.f3 q.f0 q.f1 q.f2 q.f3) : ∀ d i : Nat, i + d = p.f2.length →
  (p.f2.drop i = q.f2.drop i → ∀ r, Ev g r → Ev (fun k => Y5.l0 k (i : Int) p.f0 p.f1 p.f2 p.f3 q.f0 q.f1 q.f2 q.f3) r) ∧
  (p.f2.drop i ≠ q.f2.drop i → Ev (fun k => Y5.l0 k (i : Int) p.f0 p.f1 p.f2 p.f3 q.f0 q.f1 q.f2 q.f3) false)
 | 0, i, h => by
  refine ⟨fun _ r hr => Ev.up ?_, fun q => absurd Z1S q⟩
  simp only [Y5.l0, if_neg (show ¬ (i : Int) < (p.f2.length : Int) by omega)]
  rw [hg] at hr
  exact hr
 | d + 1, i, h => by
  have h1 : i < p.f2.length := by omega
  have h2 : i < q.f2.length := by omega
  obtain ⟨t1, t2⟩ := texts_r p q hl hn hg d (i + 1) (by omega)
  by_cases e : p.f2[i] = q.f2[i]
  ·have st : ∀ r, Ev (fun k => Y5.l0 k ((i + 1 : Nat) : Int) p.f0 p.f1 p.f2 p.f3 q.f0 q.f1 q.f2 q.f3) r → Ev (fun k => Y5.l0 k (i : Int) p.f0 p.f1 p.f2 p.f3 q.f0 q.f1 q.f2 q.f3) r := by
    intro r hr
    refine Ev.up ?_
    simp only [Y5.l0, if_pos (show (i : Int) < (p.f2.length : Int) by omega), if_pos (show (0 : Int) ≤ (i : Int) by omega), if_pos (show (i : Int) < (q.f2.length : Int) by omega), Y3C h1, Y3C h2, if_pos (Y3a.mpr e), Y5D h1 hn]
    exact hr
   exact ⟨fun w r hr => st _ (t1 ((Y2z h1 h2).mp w).2 r hr), fun w => st _ (t2 (fun v => w ((Y2z h1 h2).mpr ⟨e, v⟩)))⟩
  ·refine ⟨fun w => absurd ((Y2z h1 h2).mp w).1 e, fun _ => Ev.up ?_⟩
   simp only [Y5.l0, if_pos (show (i : Int) < (p.f2.length : Int) by omega), if_pos (show (0 : Int) ≤ (i : Int) by omega), if_pos (show (i : Int) < (q.f2.length : Int) by omega), Y3C h1, Y3C h2, if_neg (fun w => e (Y3a.mp w))]
   exact Z1X
theorem kids_r (p q : S37) (hl : p.f3.length = q.f3.length) (hn : p.f3.length ≤ 1000000) (ih : ∀ a ∈ p.f3, ∀ b, Y4l (Y4T a b) a b) : ∀ d i : Nat, i + d = p.f3.length →
  Y4l (fun k => Y5.l1 k (i : Int) p.f0 p.f1 p.f2 p.f3 q.f0 q.f1 q.f2 q.f3) (p.f3.drop i) (q.f3.drop i)
 | 0, i, h => by
  refine ⟨fun _ => Ev.up ?_, fun q => absurd Z1S q⟩
  simp only [Y5.l1, if_neg (show ¬ (i : Int) < (p.f3.length : Int) by omega)]
  exact Z1X
 | d + 1, i, h => by
  have h1 : i < p.f3.length := by omega
  have h2 : i < q.f3.length := by omega
  obtain ⟨t1, t2⟩ := kids_r p q hl hn ih d (i + 1) (by omega)
  obtain ⟨s1, s2⟩ := ih p.f3[i] (List.getElem_mem h1) q.f3[i]
  by_cases e : p.f3[i] = q.f3[i]
  ·have st : ∀ r, Ev (fun k => Y5.l1 k ((i + 1 : Nat) : Int) p.f0 p.f1 p.f2 p.f3 q.f0 q.f1 q.f2 q.f3) r → Ev (fun k => Y5.l1 k (i : Int) p.f0 p.f1 p.f2 p.f3 q.f0 q.f1 q.f2 q.f3) r := by
    intro r hr
    refine Ev.up ?_
    simp only [Y5.l1, if_pos (show (i : Int) < (p.f3.length : Int) by omega), if_pos (show (0 : Int) ≤ (i : Int) by omega), if_pos (show (i : Int) < (q.f3.length : Int) by omega), Y3B h1, Y3B h2]
    refine Ev.bind (s1 e) ?_
    simp only [if_true, Y5D h1 hn]
    exact hr
   exact ⟨fun w => st _ (t1 ((Y2z h1 h2).mp w).2), fun w => st _ (t2 (fun v => w ((Y2z h1 h2).mpr ⟨e, v⟩)))⟩
  ·refine ⟨fun w => absurd ((Y2z h1 h2).mp w).1 e, fun _ => Ev.up ?_⟩
   simp only [Y5.l1, if_pos (show (i : Int) < (p.f3.length : Int) by omega), if_pos (show (0 : Int) ≤ (i : Int) by omega), if_pos (show (i : Int) < (q.f3.length : Int) by omega), Y3B h1, Y3B h2]
   refine Ev.bind (s2 e) ?_
   simp only [Bool.false_eq_true, if_false]
   exact Z1X
theorem same_r {p : S37} (hp : Y4Y p) : ∀ q, Y4l (Y4T p q) p q := by
 induction hp with
 | @mk a b c d hc hd _ ih =>
  intro q
  have no : ∀ x : Int × ByteArray × List ByteArray × List S37, Ev (fun k => Y5.j0 k true a b c d q.f0 q.f1 q.f2 q.f3) false := fun _ => Ev.up (by simp only [Y5.j0, if_true]; exact Ev.now _)
  by_cases h0 : a = q.f0
  ·by_cases h1 : b = q.f1
   ·by_cases hl : c.length = q.f2.length
    ·by_cases hl3 : d.length = q.f3.length
     ·have st : ∀ r, Ev (fun k => Y5.l0 k 0 a b c d q.f0 q.f1 q.f2 q.f3) r → Ev (Y4T ⟨a, b, c, d⟩ q) r := by
       intro r hr
       refine Ev.up ?_
       simp only [Y4T, Y5.f, if_pos h0, if_pos (Y3a.mpr h1), if_pos (show (c.length : Int) = (q.f2.length : Int) by omega)]
       rw [show ((d.length : Int) != (q.f3.length : Int)) = false from by rw [hl3]; simp]
       refine Ev.up ?_
       simp only [Y5.j0, Bool.false_eq_true, if_false]
       exact hr
      have tx := texts_r ⟨a, b, c, d⟩ q hl hc rfl c.length 0 (by simp)
      have kx := kids_r ⟨a, b, c, d⟩ q hl3 hd ih d.length 0 (by simp)
      constructor
      ·rintro rfl
       exact st _ (tx.1 rfl _ (kx.1 rfl))
      ·intro ne
       by_cases h2 : c = q.f2
       ·exact st _ (tx.1 (by simpa using h2) _ (kx.2 (fun w => ne (s37_eq.mpr ⟨h0, h1, h2, by simpa using w⟩))))
       ·exact st _ (tx.2 (by simpa using h2))
     ·refine ⟨fun w => absurd (by rw [← w]) hl3, fun _ => Ev.up ?_⟩
      simp only [Y4T, Y5.f, if_pos h0, if_pos (Y3a.mpr h1), if_pos (show (c.length : Int) = (q.f2.length : Int) by omega)]
      rw [show ((d.length : Int) != (q.f3.length : Int)) = true from bne_iff_ne.mpr (by omega)]
      exact no ⟨a, b, c, d⟩
    ·refine ⟨fun w => absurd (by rw [← w]) hl, fun _ => Ev.up ?_⟩
     simp only [Y4T, Y5.f, if_pos h0, if_pos (Y3a.mpr h1), if_neg (show ¬ (c.length : Int) = (q.f2.length : Int) by omega)]
     exact no ⟨a, b, c, d⟩
   ·refine ⟨fun w => absurd (by rw [← w]) h1, fun _ => Ev.up ?_⟩
    simp only [Y4T, Y5.f, if_pos h0, if_neg (fun w => h1 (Y3a.mp w))]
    exact no ⟨a, b, c, d⟩
  ·refine ⟨fun w => absurd (by rw [← w]) h0, fun _ => Ev.up ?_⟩
   simp only [Y4T, Y5.f, if_neg h0]
   exact no ⟨a, b, c, d⟩
def FineN : NT → List UInt8 → Prop
 | .pathL p, _ => Y4Y p
 | .seqL p, _ => Y4Y p
 | .stepL p, _ => Y4Y p
 | .notL ts, l => ts.length + l.length ≤ 1000000
 | _, _ => True
def FineR : Res → Prop
 | .ok p _ => Y4Y p
 | .bad _ _ => True
theorem fine_k1 (k : Int) {p : S37} (h : Y4Y p) : Y4Y (pK k [p]) := .mk (by simp) (by simp) (by intro q hq; simp at hq; rw [hq]; exact h)
theorem fine_k2 (k : Int) {p q : S37} (h : Y4Y p) (h2 : Y4Y q) : Y4Y (pK k [p, q]) := .mk (by simp) (by simp) (by
 intro x hx
 simp at hx
 rcases hx with rfl | rfl
 ·exact h
 ·exact h2)
theorem P.fine {m d l res} (h : P m d l res) : l.length ≤ 1000000 → FineN m l → FineR res := by
 induction h with
 | path_ok h1 _ ih1 ih2 => intro hl _; exact ih2 (Nat.le_trans h1.le hl) (ih1 hl trivial)
 | seq_ok h1 _ ih1 ih2 => intro hl _; exact ih2 (Nat.le_trans h1.le hl) (ih1 hl trivial)
 | step_ok h1 _ ih1 ih2 => intro hl _; exact ih2 (Nat.le_trans h1.le hl) (ih1 hl trivial)
 | @pathL_more d p l r0 q l1 res hk h1 _ ih1 ih2 =>
  intro hl hp
  have := Y1x hk
  have h2 : l1.length ≤ r0.length := h1.le
  exact ih2 (by omega) (fine_k2 4 hp (ih1 (by omega) trivial))
 | @seqL_more d p l r0 q l1 res hk h1 _ ih1 ih2 =>
  intro hl hp
  have := Y1x hk
  have h2 : l1.length ≤ r0.length := h1.le
  exact ih2 (by omega) (fine_k2 3 hp (ih1 (by omega) trivial))
 | stepL_more hk _ _ ih1 => intro hl hp; exact ih1 Z1O (fine_k1 _ hp)
 | not_ hk _ ih1 => intro hl _; exact ih1 Z1O trivial
 | nt_br hi _ ih1 => intro hl _; simp only [List.length_cons] at hl; have := Y2V hi; exact ih1 (by omega) (by simp only [FineN, List.length_cons, List.length_nil]; omega)
 | notL_more hk hi _ ih1 => intro hl hf; simp only [FineN] at hf; have := Y2V hi; have := Y1x hk; exact ih1 (by omega) (by simp only [FineN, List.length_append, List.length_cons, List.length_nil]; omega)
 | up_ok hk _ _ ih1 => intro hl _; exact fine_k1 _ (ih1 Z1O trivial)
 | br_ok hk _ _ hk2 ih1 => intro hl _; exact ih1 Z1O trivial
 | pathL_end _ => intro _ hp; exact hp
 | seqL_end _ => intro _ hp; exact hp
 | stepL_end _ _ _ => intro _ hp; exact hp
 | iri_ok _ _ => intro _ _; exact .mk (by simp) (by simp) (by simp)
 | nt_one _ _ => intro _ _; exact .mk (by simp) (by simp) (by simp)
 | notL_end hk => intro hl hf; simp only [FineN] at hf; exact .mk (by omega) (by simp) (by simp)
 | _ => intros; trivial
set_option maxRecDepth 100000 in
theorem known12 : Ev (fun k => YR.f k) true := Ev.of (fun k => YR.mono k) (k := 100) (by decide +kernel)
theorem fine_0 : Y4Y ⟨0, ⟨#[]⟩, [], []⟩ := .mk (by simp) (by simp) (by simp)
theorem law_paths (s : ByteArray) : ∃ k, triviumlaw12_QueryPaths.f k s = some true := by
 refine Ev.rounds (g := fun k => triviumlaw12_QueryPaths.f k s) ?_
 unfold triviumlaw12_QueryPaths.f
 by_cases h7 : (s.size : Int) > 700
 ·simp only [if_pos h7]; exact Ev.now _
 ·simp only [if_neg h7]
  obtain ⟨a, ha⟩ := Y5b s
  obtain ⟨r, h1, hr⟩ := path_i s ha
  obtain ⟨r', h2, hr'⟩ := path_r s ha
  have hx : r = r' ∧ Y4Y ⟨r.1, r.2.1, r.2.2.1, r.2.2.2.1⟩ := by
   cases ha with
   | long h => simp only [Ans.is] at hr hr'; subst hr; subst hr'; exact ⟨rfl, fine_0⟩
   | @ok p l hs hp h =>
    have hf : Y4Y p := hp.fine (by rw [Y3N]; omega) trivial
    simp only [Ans.is] at hr hr'; subst hr; subst hr'; cases p; exact ⟨rfl, hf⟩
   | bad hs hp => simp only [Ans.is] at hr hr'; subst hr; subst hr'; exact ⟨rfl, fine_0⟩
   | rest hs hp h => simp only [Ans.is] at hr hr'; subst hr; subst hr'; exact ⟨rfl, fine_0⟩
  obtain ⟨rfl, hf⟩ := hx
  refine Ev.bind h1 (Ev.bind h2 (Ev.bind ((same_i hf _).1 rfl) ?_))
  simp only [beq_self_eq_true, if_true]
  refine Ev.bind ((same_r hf _).1 rfl) ?_
  simp only [if_true]
  exact Ev.bind known12 (Ev.now _)
end Go.Proofs.YtbpbfboaofkpaaaDoor.Print
end
section
set_option linter.unusedVariables false
namespace Go.Proofs.YtbpbfboaofkpaaaDoor
open Go.ChangeShapes Go.WideShapes Go.ChangeAt Go.RowKit
open Go.ChangeMaps (open_string shut_string)
set_option maxRecDepth 100000 in
theorem Y3w (os : Os) (started : os.Started) (H : Type) (enc : TypeId × Value → H) :
  ReturnsInHanded {} Tryd.checked os 10 .any (fun w args => (Rows.queryPathsSpec.pre enc Tryd.prog Tryd.f10 [] false w args ∧ laidMetH Tryd.prog laid2 w) ∧ sizedMet enc Tryd.prog Tryd.f10 (OpenSpec.ofChange Rows.queryPathsSpec) false w args)
   (Rows.queryPathsSpec.post enc Tryd.prog Tryd.f10 false true false false) := by
 refine Y4S (C := Tryd.checked) (X := fun w _ => laidMetH Tryd.prog laid2 w) (fun _ _ _ hh h => h.of_heap hh) own started Z5 Tryd.func10
  (ChangeSpec.witness_at (enc := enc) (C := Tryd.checked) (os := os) (X := fun w _ => laidMetH Tryd.prog laid2 w) false (Y4M os) #[.string ByteArray.empty] 8 rfl Z5 Z5 Z5 Z5 Z5 (Y4v os _)) ?_
 intro W base args ds gs before hval0 hW hL hsh
 have hval : ∀ (j : Nat) t v, Tryd.f10.params[j]? = some t → args[j]? = some v → Value.okWide Tryd.prog W .any base t v := hval0
 have hW' := hW
 obtain ⟨p, q, hA0, hV, rfl, hfz, hnd⟩ := hW
 have hA : DataW.TrodAll enc Tryd.prog W 0 (fun _ => true) true Tryd.f10.params.toList args.toList ds p := hA0
 rw [Tryd.params10] at hA hval
 obtain ⟨v0, vs0, d0, ds0, p0, q0, hargs, rfl, rfl, h0, r0⟩ := trodAll_cons hA
 obtain ⟨rfl, rfl, rfl⟩ := trodAll_nil r0
 obtain rfl : args = #[v0] := by cases args; simp_all
 obtain ⟨rfl, rfl⟩ := trodVars_none hV
 obtain ⟨a0, rfl, rfl, rfl, y0⟩ := open_string Tryd.underlying9 (hval 0 9 v0 rfl rfl) h0
 clear hA0 hval0
 obtain ⟨k, hk⟩ := Print.law_paths a0
 refine (Print.triviumlaw12_QueryPaths.calls k a0 true W (Y4V hL hsh)  hk).mono fun e W' ⟨he, bel⟩ => ?_
 subst he
 exact ⟨_, rfl, _, _, _, [], _, [], hW', trodAll_mk1 (shut_bool Tryd.underlying4 _), (trodAll_cons_mk (shut_string Tryd.underlying9 y0) trodAll_mk0), rfl, bel.frame _, fun h => by cases h⟩
theorem queryPaths_holds : Rows.QueryPathsSaid :=
 OpenClaim.holds_of_wide 10 Tryd.f10 rfl rfl rfl rfl rfl rfl rfl ⟨rfl, rfl, rfl, rfl, rfl⟩ rfl rfl rfl rfl rfl Z5 Tryd.func10 Z5
  (of_decide_eq_true Z5) (by unfold Func.isWrapper; rw [if_neg (by decide +kernel)]; exact ⟨rfl, rfl⟩)
  (fun os started H enc _ => Y3w os started H enc)
theorem queryPaths_card : Rows.QueryPathsCardSaid :=
 Claim7.holds_tied_plain_at .later [] [.data, .pinned] true (true, "8dc71fce747bb8b3b218677ae7dbf523581ddbbfb392b53abaf975cea163e82b") false
  queryPaths_holds (fun _ h => by cases h) Z5 (fun _ h => by cases h) queryPaths_row_tie rfl ⟨rfl, rfl⟩ Z5 rfl
  (fun f fn hf hfn => by
   obtain rfl : f = 10 := Option.some.inj ((show Tryd.prog.funcNamed "trivium/triviumlaw12.QueryPaths" = some 10 by kernel_rfl).symm.trans hf) |>.symm
   obtain rfl : fn = Tryd.f10 := (Option.some.inj (Tryd.func10.symm.trans hfn)).symm
   exact ⟨by kernel_rfl, fun j t ht => by
    rw [Tryd.params10] at ht
    rcases j with _ | j
    ·obtain rfl : t = 9 := by simpa using ht.symm
     exact (show Tryd.prog.wantsStandIn 9 = false by kernel_rfl)
    ·simp at ht⟩)
  Z5
#print axioms queryPaths_card
end Go.Proofs.YtbpbfboaofkpaaaDoor
end
