/- Proofs for this claim: printed by our driver and joined by pack.py; the last text holds the statement. -/
import Derived.Test.YtbpbfboaofkpaaaDoorQkQ2
section
namespace Go.Proofs.YtbpbfboaofkpaaaDoor.Print
open Go.RowKit Go.Proofs.YtbpbfboaofkpaaaDoorW.PrintWords Go.Proofs.YtbpbfboaofkpaaaDoorW.PrintLast Go.Proofs.YtbpbfboaofkpaaaDoorW.PrintMore
attribute [local go_sem] max2_int min2_int max_two min_two max_three min_three max_four min_four
set_option linter.unusedVariables false
set_option linter.unusedSimpArgs false
set_option maxHeartbeats 8000000 in
set_option maxRecDepth 100000 in
theorem YG.step (k : Nat) (ih : ∀ j_ < k, Yq.Spec j_ ∧ Yz.Spec j_ ∧ Yf.Spec j_ ∧ YG.Spec j_ ∧ YN.Spec j_) : ∀ (g : Nat) (s0_0 : ByteArray) (s0_1 : Int) (s0_2 : Int) (s0_3 : Int) (a1 : Int) (r1 : Int) (r2 : ByteArray) (r3 : List ByteArray) (r4 : List (S37)) (r5 : ByteArray) (r6 : Int) (r7 : Int) (r8 : Int) (w0 w : World) (hI : Yw w0 w g s0_0 s0_1 s0_2 s0_3) (hB : Below w0.heap.size w0 w) (hT : Tabs w0) (h : YG.f k s0_0 s0_1 s0_2 s0_3 a1 = some (r1, r2, r3, r4, r5, r6, r7, r8)),
  Calls Tryd.prog 123 #[.pointer (some ⟨g, 0, none⟩), .int .i64 a1] w fun e w' => ∃ v2_ v3_ : Value, e = .returned (.agg #[.int .i64 r1, .string r2, v2_, v3_]) ∧ Kd.R Kd.string 9 w' w.heap.size (fun k_ => (w.heap.size ≤ k_)) v2_ r3 ∧ Kd.N k37 37 w' w.heap.size (fun k_ => (w.heap.size ≤ k_) ∧ some k_ ≠ (v2_ : Value).ownBlock) v3_ r4 ∧ Yw w0 w' g r5 r6 r7 r8 ∧ Below w0.heap.size w0 w' ∧ Y1 w w' g none := by
 intro g s0_0 s0_1 s0_2 s0_3 a1 r1 r2 r3 r4 r5 r6 r7 r8 w0 w hI hB hT h
 cases k with
 | zero => exact absurd h (by simp [YG.f])
 | succ k =>
 simp only [YG.f] at h
 have HT := Y0.mk hT
 clear hT
 have hu37 := Tryd.underlying37
 have HI0 := Y0.mk hI
 have HK := Y0.mk (Y1.refl w g none)
 have HL := Y0.mk hB.size
 clear hI
 have HW0 := Y0.mk hB.size
 have HB := Y0.mk hB
 clear hB
 have H : ((Yj.f k s0_0 s0_1 s0_2 s0_3).bind fun bt198 => (if bt198.1 = 94 then (if a1 ≥ 5 then ((Ys.f bt198.2.1 bt198.2.2.1 bt198.2.2.2.1 bt198.2.2.2.2 bt198.2.2.1 3).bind fun bt215 => (some (bt215.1, bt215.2.1, bt215.2.2.1, bt215.2.2.2.1, bt215.2.2.2.2.1, bt215.2.2.2.2.2.1, bt215.2.2.2.2.2.2.1, bt215.2.2.2.2.2.2.2))) else ((YG.f k bt198.2.1 (wrap64 (bt198.2.2.1 + 1)) bt198.2.2.2.1 bt198.2.2.2.2 (wrap64 (a1 + 1))).bind fun bt227 => (some (2, (⟨#[]⟩ : ByteArray), ([] : List ByteArray), (([(⟨bt227.1, bt227.2.1, bt227.2.2.1, bt227.2.2.2.1⟩ : S37)] : List (S37))), bt227.2.2.2.2.1, bt227.2.2.2.2.2.1, bt227.2.2.2.2.2.2.1, bt227.2.2.2.2.2.2.2)))) else ((YN.f k bt198.2.1 bt198.2.2.1 bt198.2.2.2.1 bt198.2.2.2.2 a1).bind fun bt203 => (some (bt203.1, bt203.2.1, bt203.2.2.1, bt203.2.2.2.1, bt203.2.2.2.2.1, bt203.2.2.2.2.2.1, bt203.2.2.2.2.2.2.1, bt203.2.2.2.2.2.2.2))))) = some (r1, r2, r3, r4, r5, r6, r7, r8) := h
 clear h
 replace H := Option.bind_eq_some_iff.mp H
 obtain ⟨⟨t198, t199, t200, t201, t202⟩, A30, H⟩ := H
 replace H : (if t198 = 94 then (if a1 ≥ 5 then ((Ys.f t199 t200 t201 t202 t200 3).bind fun bt215 => (some (bt215.1, bt215.2.1, bt215.2.2.1, bt215.2.2.2.1, bt215.2.2.2.2.1, bt215.2.2.2.2.2.1, bt215.2.2.2.2.2.2.1, bt215.2.2.2.2.2.2.2))) else ((YG.f k t199 (wrap64 (t200 + 1)) t201 t202 (wrap64 (a1 + 1))).bind fun bt227 => (some (2, (⟨#[]⟩ : ByteArray), ([] : List ByteArray), (([(⟨bt227.1, bt227.2.1, bt227.2.2.1, bt227.2.2.2.1⟩ : S37)] : List (S37))), bt227.2.2.2.2.1, bt227.2.2.2.2.2.1, bt227.2.2.2.2.2.2.1, bt227.2.2.2.2.2.2.2)))) else ((YN.f k t199 t200 t201 t202 a1).bind fun bt203 => (some (bt203.1, bt203.2.1, bt203.2.2.1, bt203.2.2.2.1, bt203.2.2.2.2.1, bt203.2.2.2.2.2.1, bt203.2.2.2.2.2.2.1, bt203.2.2.2.2.2.2.2)))) = some (r1, r2, r3, r4, r5, r6, r7, r8) := H
 have A3 := Y0.mk A30
 clear A30
 by_cases c4 : t198 = 94
 ·rw [if_pos c4] at H
  have c4b0 : (t198 == 94) = true := beq_iff_eq.mpr c4
  have c4b1 : (t198 != 94) = false := bne_eq_false_iff_eq.mpr c4
  clear c4
  by_cases c5 : a1 ≥ 5
  ·rw [if_pos c5] at H
   have c5b0 : decide (5 ≤ a1) = true := decide_eq_true c5
   clear c5
   replace H := Option.bind_eq_some_iff.mp H
   obtain ⟨⟨t215, t216, t217, t220, t223, t224, t225, t226⟩, A60, H⟩ := H
   replace H : (some (t215, t216, t217, t220, t223, t224, t225, t226)) = some (r1, r2, r3, r4, r5, r6, r7, r8) := H
   have A6 := Y0.mk A60
   clear A60
   simp only [Option.some.injEq, Prod.mk.injEq] at H
   obtain ⟨rfl, rfl, rfl, rfl, rfl, rfl, rfl, rfl⟩ := H
   go_enter Tryd.func123, Tryd.ntmps123
   go_wp2_with (first | ((with_reducible refine YF (N := 4) rfl ?_); refine YE ?hg (N := 4) ?hd (cs := #[.int .i64 0, .string (⟨#[]⟩ : ByteArray), .slice none 0 0, .slice none 0 0]) (t := 37) ?hr ?_; (case hd => rfl); (case hg => rfl); (case hr => exact Za); intro gb197 hg w7 hbox hb; have n_ := Y4q (Yw.below QI75_0 hb) (Y1.trans QK (Y1.of_below hb g none) (.inl rfl)) (Yb QB hb) (hbox) ((by rw [hg]; exact (Y8 (w := w) (g := g) (row := none) QK) : w.heap.size ≤ gb197)) ((Nat.le_trans HW0.out (by rw [hg]; exact (Y8 (w := w) (g := g) (row := none) QK) : w.heap.size ≤ gb197) : w0.heap.size ≤ gb197)) ((by rw [hg]; exact Nat.ne_of_lt (Yw.lt (show Yw w0 _ g s0_0 s0_1 s0_2 s0_3 from QI75_0)) : g ≠ gb197)) ((by rw [hg]; exact Nat.ne_of_gt (Yw.lt (show Yw w0 _ g s0_0 s0_1 s0_2 s0_3 from QI75_0)) : gb197 ≠ g)); clear HI0 HK HB; obtain ⟨HI0, HK, HB, BK197, GW197, GE197, NB0_197, NB197_0⟩ := n_; clear hb hbox hg) | ((with_reducible refine Yn (f := 53) rfl ?_); refine YO (some 6) rfl rfl Tryd.func53 Z6 rfl #[.pointer (some ⟨g, 0, none⟩)] rfl Z0 ?_; (with_reducible refine (Yj.calls k g s0_0 s0_1 s0_2 s0_3 t198 t199 t200 t201 t202 w0 _ ?side1 ?side2 A3.out).mono ?_); (case side1 => exact Z1e); (case side2 => exact QB); rintro e w8 ⟨rfl, hi, hb, hk⟩; refine ⟨_, rfl, ?_⟩; have n_ := Y31 (Y1.blk hk (g' := gb197) (o := .cells #[.int .i64 0, .string (⟨#[]⟩ : ByteArray), .slice none 0 0, .slice none 0 0] 37 (0, 0)) QQ NB197_0.out (by simp)) (Y1.trans QK hk (.inl rfl)) (hb) (hi); clear BK197 HK HB HI0; obtain ⟨BK197, HK, HB, HI0⟩ := n_; (try clear hb); (try clear hb2); (try clear hk); (try clear hi); obtain ⟨HGz9, hgz9⟩ := HI0.out; have hcz9_0 := YZ HGz9; have hcz9_1 := Y10 HGz9; have hcz9_2 := Y11 HGz9; have hcz9_3 := Y12 HGz9; have hfz9_0 := Y7 HGz9 0; have hfz9_1 := Y7 HGz9 1; have hfz9_2 := Y7 HGz9 2; have hfz9_3 := Y7 HGz9 3; clear HGz9 hgz9) | ((with_reducible refine Yn (f := 54) rfl ?_); refine YO (some 18) rfl rfl Tryd.func54 Z6 rfl #[.pointer (some ⟨g, 0, none⟩), .int .i64 t200, .int .i64 3] rfl Z0 ?_; (with_reducible refine (Ys.calls g t199 t200 t201 t202 t200 3 t215 t216 t217 t220 t223 t224 t225 t226 w0 _ ?side1 ?side2 A6.out).mono ?_); (case side1 => exact Z1e); (case side2 => exact QB); rintro e w10 ⟨v218, v221, rfl, ho0, ho1, hi, hb, hk⟩; refine ⟨_, rfl, ?_⟩; have n0_ := Y0.mk (Y1.blk hk (g' := gb197) (o := .cells #[.int .i64 0, .string (⟨#[]⟩ : ByteArray), .slice none 0 0, .slice none 0 0] 37 (0, 0)) QQ NB197_0.out (by simp)); have n1_ := Y0.mk (Kd.R_lower (Kd.R_newM (M := fun k_ => (w.heap.size ≤ k_)) (Kd.R_mono (ok' := fun k_ => True) ho0 (fun _ hk_ => trivial)) (Y8 (w := w) (g := g) (row := none) QK) (fun k_ h_ => h_)) (Y8 (w := w) (g := g) (row := none) QK)); have n2_ := Y0.mk (Kd.N_lower (Kd.N_mono (ok' := fun k_ => (w.heap.size ≤ k_) ∧ some k_ ≠ (v218 : Value).ownBlock ∧ k_ ≠ gb197 ∧ k_ ≠ g) ho1 (fun k_ hk_ => ⟨(Nat.le_trans (Y8 (w := w) (g := g) (row := none) QK) hk_.1), hk_.2, (Kd.freshB (g := gb197) (o := .cells #[.int .i64 0, .string (⟨#[]⟩ : ByteArray), .slice none 0 0, .slice none 0 0] 37 (0, 0)) QQ k_ hk_.1), (Yw.fresh QI75_0 k_ hk_.1)⟩)) (Y8 (w := w) (g := g) (row := none) QK)); have n3_ := Y0.mk (Y1.trans QK hk (.inl rfl)); have n4_ := Y0.mk (hb); have n5_ := Y0.mk (hi); clear BK197 HK HB HI0; have BK197 := n0_; have HO219 := n1_; have HO222 := n2_; have HK := n3_; have HB := n4_; have HI0 := n5_; clear n0_ n1_ n2_ n3_ n4_ n5_; (try clear hb); (try clear hb2); (try clear hk); (try clear hi); (try clear ho0); (try clear ho1); have hnb11 := NB197_0.out; have hnc11 := NB0_197.out; obtain ⟨hcz12_0, hcz12_1, hcz12_2, hcz12_3, hfz12_0, hfz12_1, hfz12_2, hfz12_3⟩ := YA BK197.out; obtain ⟨Ao13, co13, eo13⟩ := Kd.R_slice HO219.out; subst eo13; obtain ⟨Ao14, co14, eo14⟩ := Kd.N_slice HO222.out; subst eo14))
   refine bodyPost_ret (results_cell_row rfl _ _ gb197 37 #[.int .i64 t215, .string t216, .slice Ao13 t217.length co13, .slice Ao14 t220.length co14] (0, 0) _ rfl (by (with_reducible repeat (first | refine Yg ?_ _ | refine Ya ?_ | refine Ye ?_ _)); exact YD (cs := #[.int .i64 t215, .string t216, .slice Ao13 t217.length co13, .slice none 0 0]) (by (with_reducible repeat (first | refine Yg ?_ _ | refine Ya ?_ | refine Ye ?_ _)); exact YD (cs := #[.int .i64 t215, .string t216, .slice none 0 0, .slice none 0 0]) (by (with_reducible repeat (first | refine Yg ?_ _ | refine Ya ?_ | refine Ye ?_ _)); exact YD (cs := #[.int .i64 t215, .string (⟨#[]⟩ : ByteArray), .slice none 0 0, .slice none 0 0]) Z1 1 _ rfl) 2 _ rfl) 3 _ rfl) Tryd.underlying37 rfl Z6) rfl ?_
   exact ⟨_, _, Z2, by (with_reducible repeat (first | apply Kd.R_alloc | apply Kd.R_drewN | apply Kd.R_drew)); exact Kd.R_mono (Kd.R_far (p := ⟨gb197, 3, none⟩) (Kd.R_far (p := ⟨gb197, 2, none⟩) (Kd.R_far (p := ⟨gb197, 1, none⟩) (Kd.R_far (p := ⟨gb197, 0, none⟩) (Kd.R_types HO219.out BK197.out (by decide)) (fun _ hk => hk.2) (.int .i64 t215)) (fun _ hk => hk.2) (.string t216)) (fun _ hk => hk.2) (.slice Ao13 t217.length co13)) (fun _ hk => hk.2) (.slice Ao14 t220.length co14)) (fun _ hk => hk.1.1), by (with_reducible repeat (first | apply Kd.N_alloc | apply Kd.N_drewN | apply Kd.N_drew)); exact Kd.N_mono (Kd.N_far (p := ⟨gb197, 3, none⟩) (Kd.N_far (p := ⟨gb197, 2, none⟩) (Kd.N_far (p := ⟨gb197, 1, none⟩) (Kd.N_far (p := ⟨gb197, 0, none⟩) (Kd.N_mono HO222.out (fun k_ hk => (⟨hk, hk.2.2.1⟩ : _ ∧ k_ ≠ gb197))) (fun _ hk => hk.2) (.int .i64 t215)) (fun _ hk => hk.2) (.string t216)) (fun _ hk => hk.2) (.slice Ao13 t217.length co13)) (fun _ hk => hk.2) (.slice Ao14 t220.length co14)) (fun _ hk => ⟨hk.1.1, hk.1.2.1⟩), QI75_0, QB, QK⟩
  ·rw [if_neg c5] at H
   have c5b0 : decide (5 ≤ a1) = false := decide_eq_false c5
   clear c5
   replace H := Option.bind_eq_some_iff.mp H
   obtain ⟨⟨t227, t228, t229, t232, t235, t236, t237, t238⟩, A150, H⟩ := H
   replace H : (some (2, (⟨#[]⟩ : ByteArray), ([] : List ByteArray), (([(⟨t227, t228, t229, t232⟩ : S37)] : List (S37))), t235, t236, t237, t238)) = some (r1, r2, r3, r4, r5, r6, r7, r8) := H
   have A15 := Y0.mk A150
   clear A150
   obtain ⟨y239, hy239⟩ : ∃ y_ : List (S37), y_ = (([(⟨t227, t228, t229, t232⟩ : S37)] : List (S37))) := ⟨_, rfl⟩
   replace H : (some (2, (⟨#[]⟩ : ByteArray), ([] : List ByteArray), y239, t235, t236, t237, t238)) = some (r1, r2, r3, r4, r5, r6, r7, r8) := by first | (rw [hy239]; with_reducible exact H) | (have H2_ := (Option.bind_some _ _).symm.trans H; rw [hy239]; with_reducible exact H2_) | (have H2_ := (Option.bind_some _ _).symm.trans H; with_reducible exact H2_) | with_reducible exact H | (rw [hy239]; exact H) | exact H
   have Ny239 := Y0.mk hy239
   clear hy239
   simp only [Option.some.injEq, Prod.mk.injEq] at H
   obtain ⟨rfl, rfl, rfl, rfl, rfl, rfl, rfl, rfl⟩ := H
   go_enter Tryd.func123, Tryd.ntmps123
   go_wp2_with (first | ((with_reducible refine YF (N := 4) rfl ?_); refine YE ?hg (N := 4) ?hd (cs := #[.int .i64 0, .string (⟨#[]⟩ : ByteArray), .slice none 0 0, .slice none 0 0]) (t := 37) ?hr ?_; (case hd => rfl); (case hg => rfl); (case hr => exact Za); intro gb197 hg w16 hbox hb; have n_ := Y4q (Yw.below QI75_0 hb) (Y1.trans QK (Y1.of_below hb g none) (.inl rfl)) (Yb QB hb) (hbox) ((by rw [hg]; exact (Y8 (w := w) (g := g) (row := none) QK) : w.heap.size ≤ gb197)) ((Nat.le_trans HW0.out (by rw [hg]; exact (Y8 (w := w) (g := g) (row := none) QK) : w.heap.size ≤ gb197) : w0.heap.size ≤ gb197)) ((by rw [hg]; exact Nat.ne_of_lt (Yw.lt (show Yw w0 _ g s0_0 s0_1 s0_2 s0_3 from QI75_0)) : g ≠ gb197)) ((by rw [hg]; exact Nat.ne_of_gt (Yw.lt (show Yw w0 _ g s0_0 s0_1 s0_2 s0_3 from QI75_0)) : gb197 ≠ g)); clear HI0 HK HB; obtain ⟨HI0, HK, HB, BK197, GW197, GE197, NB0_197, NB197_0⟩ := n_; clear hb hbox hg) | ((with_reducible refine Yn (f := 53) rfl ?_); refine YO (some 6) rfl rfl Tryd.func53 Z6 rfl #[.pointer (some ⟨g, 0, none⟩)] rfl Z0 ?_; (with_reducible refine (Yj.calls k g s0_0 s0_1 s0_2 s0_3 t198 t199 t200 t201 t202 w0 _ ?side1 ?side2 A3.out).mono ?_); (case side1 => exact Z1e); (case side2 => exact QB); rintro e w17 ⟨rfl, hi, hb, hk⟩; refine ⟨_, rfl, ?_⟩; have n_ := Y31 (Y1.blk hk (g' := gb197) (o := .cells #[.int .i64 0, .string (⟨#[]⟩ : ByteArray), .slice none 0 0, .slice none 0 0] 37 (0, 0)) QQ NB197_0.out (by simp)) (Y1.trans QK hk (.inl rfl)) (hb) (hi); clear BK197 HK HB HI0; obtain ⟨BK197, HK, HB, HI0⟩ := n_; (try clear hb); (try clear hb2); (try clear hk); (try clear hi); obtain ⟨HGz18, hgz18⟩ := HI0.out; have hcz18_0 := YZ HGz18; have hcz18_1 := Y10 HGz18; have hcz18_2 := Y11 HGz18; have hcz18_3 := Y12 HGz18; have hfz18_0 := Y7 HGz18 0; have hfz18_1 := Y7 HGz18 1; have hfz18_2 := Y7 HGz18 2; have hfz18_3 := Y7 HGz18 3; clear HGz18 hgz18) | ((with_reducible refine Yn (f := 123) rfl ?_); refine YO (some 29) rfl rfl Tryd.func123 Z6 rfl #[.pointer (some ⟨g, 0, none⟩), .int .i64 (wrap64 (a1 + 1))] rfl Z0 ?_; (with_reducible refine ((ih k (by omega)).2.2.2.1 g t199 (wrap64 (t200 + 1)) t201 t202 (wrap64 (a1 + 1)) t227 t228 t229 t232 t235 t236 t237 t238 w0 _ ?side1 ?side2 ?side3 A15.out).mono ?_); (case side1 => exact Z1e); (case side2 => exact QB); (case side3 => exact Z1O); rintro e w19 ⟨v230, v233, rfl, ho0, ho1, hi, hb, hk⟩; refine ⟨_, rfl, ?_⟩; have n0_ := Y0.mk (Y1.blk hk (g' := gb197) (o := .cells #[.int .i64 0, .string (⟨#[]⟩ : ByteArray), .slice none 0 0, .slice none 0 0] 37 (0, 0)) Z1B NB197_0.out (by simp)); have n1_ := Y0.mk (Kd.R_lower (Kd.R_newM (M := fun k_ => (w.heap.size ≤ k_)) (Kd.R_mono (ok' := fun k_ => True) ho0 (fun _ hk_ => trivial)) (Y8 (w := w) (g := g) (row := none) QK) (fun k_ h_ => h_)) (Y8 (w := w) (g := g) (row := none) QK)); have n2_ := Y0.mk (Kd.N_lower (Kd.N_mono (ok' := fun k_ => (w.heap.size ≤ k_) ∧ some k_ ≠ (v230 : Value).ownBlock ∧ k_ ≠ gb197 ∧ k_ ≠ g) ho1 (fun k_ hk_ => ⟨(Nat.le_trans (Y8 (w := w) (g := g) (row := none) QK) hk_.1), hk_.2, (Kd.freshB (g := gb197) (o := .cells #[.int .i64 0, .string (⟨#[]⟩ : ByteArray), .slice none 0 0, .slice none 0 0] 37 (0, 0)) Z1B k_ hk_.1), (Yw.fresh QI75_0 k_ hk_.1)⟩)) (Y8 (w := w) (g := g) (row := none) QK)); have n3_ := Y0.mk (Y1.trans QK hk (.inl rfl)); have n4_ := Y0.mk (hb); have n5_ := Y0.mk (hi); clear BK197 HK HB HI0; have BK197 := n0_; have HO231 := n1_; have HO234 := n2_; have HK := n3_; have HB := n4_; have HI0 := n5_; clear n0_ n1_ n2_ n3_ n4_ n5_; (try clear hb); (try clear hb2); (try clear hk); (try clear hi); (try clear ho0); (try clear ho1); obtain ⟨Ao20, co20, eo20⟩ := Kd.R_slice HO231.out; subst eo20; obtain ⟨Ao21, co21, eo21⟩ := Kd.N_slice HO234.out; subst eo21) | ((with_reducible refine YF (N := 30) rfl ?_); refine Kd.N_lit k37 _ 37 ?hg (N' := 30) ?hd (xs := ([(⟨t227, t228, t229, t232⟩ : S37)] : List (S37))) (inner := [.int .i64 t227, .string t228, .slice Ao20 t229.length co20, .slice Ao21 t232.length co21]) (ok := (fun k_ => (w.heap.size ≤ k_) ∧ k_ ≠ gb197 ∧ k_ ≠ g)) (okp := (fun k_ => (w.heap.size ≤ k_) ∧ k_ ≠ gb197 ∧ k_ ≠ g)) ?hr ?hp (fun _ hk => hk) ((show ∀ k_, w19.heap.size ≤ k_ → (fun k_ => (w.heap.size ≤ k_) ∧ k_ ≠ gb197 ∧ k_ ≠ g) k_ from fun k_ hk => ⟨(Nat.le_trans (Y8 (w := w) (g := g) (row := none) QK) hk), Kd.freshB (g := gb197) (o := .cells #[.int .i64 0, .string (⟨#[]⟩ : ByteArray), .slice none 0 0, .slice none 0 0] 37 (0, 0)) QQ k_ hk, Yw.fresh QI75_0 k_ hk⟩) _ (Nat.le_refl _)) (Below.refl _ _) (Nat.le_refl _) (by simp) ?_; (case hd => rfl); (case hg => rfl); (case hr => exact Za); (case hp => exact (Y1E.c4 (show Kd.FK k37 _ _ (⟨t227, t228, t229, t232⟩ : S37) [.int .i64 t227, .string t228, .slice Ao20 t229.length co20, .slice Ao21 t232.length co21] from (Y2d _ _ (⟨t227, t228, t229, t232⟩ : S37) (Kd.R_reads' (Kd.R_mono (ok' := (fun k_ => (w.heap.size ≤ k_) ∧ k_ ≠ gb197 ∧ k_ ≠ g)) (Yw.apart HI0.out (Kd.R_types (HO231.out) BK197.out (by decide)) (by decide)) (fun k_ hk => ⟨hk.1.1.1, ⟨hk.1.2, hk.2⟩⟩))).2.1 (Kd.R_F (Kd.R_mono (ok' := (fun k_ => (w.heap.size ≤ k_) ∧ k_ ≠ gb197 ∧ k_ ≠ g)) (Yw.apart HI0.out (Kd.R_types (HO231.out) BK197.out (by decide)) (by decide)) (fun k_ hk => ⟨hk.1.1.1, ⟨hk.1.2, hk.2⟩⟩))) (Kd.N_reads' (Kd.N_mono (ok' := (fun k_ => (w.heap.size ≤ k_) ∧ k_ ≠ gb197 ∧ k_ ≠ g)) (HO234.out) (fun k_ hk => ⟨hk.1, ⟨hk.2.2.1, hk.2.2.2⟩⟩))).2.1 (Kd.N_F (Kd.N_mono (ok' := (fun k_ => (w.heap.size ≤ k_) ∧ k_ ≠ gb197 ∧ k_ ≠ g)) (HO234.out) (fun k_ hk => ⟨hk.1, ⟨hk.2.2.1, hk.2.2.2⟩⟩))))) (Y1E.none _ _))); intro v240 w22 ho23 hb hg_ hnew_; clear hg_ hnew_; (first | rw [← Ny239.out] at ho23 | (simp only [Int.reduceToNat] at ho23; rw [← Ny239.out] at ho23)); have n_ := Y4k (Kd.N_lower ho23 (Y8 (w := w) (g := g) (row := none) QK)) (Yw.below QI75_0 hb) (Yu (g := gb197) (o := .cells #[.int .i64 0, .string (⟨#[]⟩ : ByteArray), .slice none 0 0, .slice none 0 0] 37 (0, 0)) QQ hb) (Y1.trans QK (Y1.of_below hb g none) (.inl rfl)) (Yb QB hb); clear HI0 BK197 HK HB HO231 HO234; obtain ⟨HO241, HI0, BK197, HK, HB⟩ := n_; clear hb ho23; obtain ⟨Ao24, co24, eo24⟩ := Kd.N_slice HO241.out; subst eo24; have hnb25 := NB197_0.out; have hnc25 := NB0_197.out; obtain ⟨hcz26_0, hcz26_1, hcz26_2, hcz26_3, hfz26_0, hfz26_1, hfz26_2, hfz26_3⟩ := YA BK197.out))
   refine bodyPost_ret (results_cell_row rfl _ _ gb197 37 #[.int .i64 2, .string (⟨#[]⟩ : ByteArray), .slice none 0 0, .slice Ao24 y239.length co24] (0, 0) _ rfl Z24 Tryd.underlying37 rfl Z6) rfl ?_
   exact ⟨_, _, Z2, Z5, by (with_reducible repeat (first | apply Kd.N_alloc | apply Kd.N_drewN | apply Kd.N_drew)); exact Kd.N_mono (Kd.N_far (p := ⟨gb197, 3, none⟩) (Kd.N_far (p := ⟨gb197, 2, none⟩) (Kd.N_far (p := ⟨gb197, 1, none⟩) (Kd.N_far (p := ⟨gb197, 0, none⟩) (Kd.N_mono HO241.out (fun k_ hk => (⟨hk, hk.2.1⟩ : _ ∧ k_ ≠ gb197))) (fun _ hk => hk.2) (.int .i64 2)) (fun _ hk => hk.2) (.string (⟨#[]⟩ : ByteArray))) (fun _ hk => hk.2) (.slice none 0 0)) (fun _ hk => hk.2) (.slice Ao24 y239.length co24)) (fun _ hk => ⟨hk.1.1, Z2b⟩), QI75_0, QB, QK⟩
 ·rw [if_neg c4] at H
  have c4b0 : (t198 == 94) = false := beq_eq_false_iff_ne.mpr c4
  have c4b1 : (t198 != 94) = true := bne_iff_ne.mpr c4
  replace H := Option.bind_eq_some_iff.mp H
  obtain ⟨⟨t203, t204, t205, t208, t211, t212, t213, t214⟩, A270, H⟩ := H
  replace H : (some (t203, t204, t205, t208, t211, t212, t213, t214)) = some (r1, r2, r3, r4, r5, r6, r7, r8) := H
  have A27 := Y0.mk A270
  clear A270
  simp only [Option.some.injEq, Prod.mk.injEq] at H
  obtain ⟨rfl, rfl, rfl, rfl, rfl, rfl, rfl, rfl⟩ := H
  go_enter Tryd.func123, Tryd.ntmps123
  go_wp2_with (first | ((with_reducible refine YF (N := 4) rfl ?_); refine YE ?hg (N := 4) ?hd (cs := #[.int .i64 0, .string (⟨#[]⟩ : ByteArray), .slice none 0 0, .slice none 0 0]) (t := 37) ?hr ?_; (case hd => rfl); (case hg => rfl); (case hr => exact Za); intro gb197 hg w28 hbox hb; have n_ := Y4q (Yw.below QI75_0 hb) (Y1.trans QK (Y1.of_below hb g none) (.inl rfl)) (Yb QB hb) (hbox) ((by rw [hg]; exact (Y8 (w := w) (g := g) (row := none) QK) : w.heap.size ≤ gb197)) ((Nat.le_trans HW0.out (by rw [hg]; exact (Y8 (w := w) (g := g) (row := none) QK) : w.heap.size ≤ gb197) : w0.heap.size ≤ gb197)) ((by rw [hg]; exact Nat.ne_of_lt (Yw.lt (show Yw w0 _ g s0_0 s0_1 s0_2 s0_3 from QI75_0)) : g ≠ gb197)) ((by rw [hg]; exact Nat.ne_of_gt (Yw.lt (show Yw w0 _ g s0_0 s0_1 s0_2 s0_3 from QI75_0)) : gb197 ≠ g)); clear HI0 HK HB; obtain ⟨HI0, HK, HB, BK197, GW197, GE197, NB0_197, NB197_0⟩ := n_; clear hb hbox hg) | ((with_reducible refine Yn (f := 53) rfl ?_); refine YO (some 6) rfl rfl Tryd.func53 Z6 rfl #[.pointer (some ⟨g, 0, none⟩)] rfl Z0 ?_; (with_reducible refine (Yj.calls k g s0_0 s0_1 s0_2 s0_3 t198 t199 t200 t201 t202 w0 _ ?side1 ?side2 A3.out).mono ?_); (case side1 => exact Z1e); (case side2 => exact QB); rintro e w29 ⟨rfl, hi, hb, hk⟩; refine ⟨_, rfl, ?_⟩; have n_ := Y31 (Y1.blk hk (g' := gb197) (o := .cells #[.int .i64 0, .string (⟨#[]⟩ : ByteArray), .slice none 0 0, .slice none 0 0] 37 (0, 0)) QQ NB197_0.out (by simp)) (Y1.trans QK hk (.inl rfl)) (hb) (hi); clear BK197 HK HB HI0; obtain ⟨BK197, HK, HB, HI0⟩ := n_; (try clear hb); (try clear hb2); (try clear hk); (try clear hi)) | ((with_reducible refine Yn (f := 134) rfl ?_); refine YO (some 10) rfl rfl Tryd.func134 Z6 rfl #[.pointer (some ⟨g, 0, none⟩), .int .i64 a1] rfl Z0 ?_; (with_reducible refine ((ih k (by omega)).2.2.2.2 g t199 t200 t201 t202 a1 t203 t204 t205 t208 t211 t212 t213 t214 w0 _ ?side1 ?side2 ?side3 A27.out).mono ?_); (case side1 => exact Z1e); (case side2 => exact QB); (case side3 => exact Z1O); rintro e w30 ⟨v206, v209, rfl, ho0, ho1, hi, hb, hk⟩; refine ⟨_, rfl, ?_⟩; have n0_ := Y0.mk (Y1.blk hk (g' := gb197) (o := .cells #[.int .i64 0, .string (⟨#[]⟩ : ByteArray), .slice none 0 0, .slice none 0 0] 37 (0, 0)) QQ NB197_0.out (by simp)); have n1_ := Y0.mk (Kd.R_lower (Kd.R_newM (M := fun k_ => (w.heap.size ≤ k_)) (Kd.R_mono (ok' := fun k_ => True) ho0 (fun _ hk_ => trivial)) (Y8 (w := w) (g := g) (row := none) QK) (fun k_ h_ => h_)) (Y8 (w := w) (g := g) (row := none) QK)); have n2_ := Y0.mk (Kd.N_lower (Kd.N_mono (ok' := fun k_ => (w.heap.size ≤ k_) ∧ some k_ ≠ (v206 : Value).ownBlock ∧ k_ ≠ gb197 ∧ k_ ≠ g) ho1 (fun k_ hk_ => ⟨(Nat.le_trans (Y8 (w := w) (g := g) (row := none) QK) hk_.1), hk_.2, (Kd.freshB (g := gb197) (o := .cells #[.int .i64 0, .string (⟨#[]⟩ : ByteArray), .slice none 0 0, .slice none 0 0] 37 (0, 0)) QQ k_ hk_.1), (Yw.fresh QI75_0 k_ hk_.1)⟩)) (Y8 (w := w) (g := g) (row := none) QK)); have n3_ := Y0.mk (Y1.trans QK hk (.inl rfl)); have n4_ := Y0.mk (hb); have n5_ := Y0.mk (hi); clear BK197 HK HB HI0; have BK197 := n0_; have HO207 := n1_; have HO210 := n2_; have HK := n3_; have HB := n4_; have HI0 := n5_; clear n0_ n1_ n2_ n3_ n4_ n5_; (try clear hb); (try clear hb2); (try clear hk); (try clear hi); (try clear ho0); (try clear ho1); have hnb31 := NB197_0.out; have hnc31 := NB0_197.out; obtain ⟨hcz32_0, hcz32_1, hcz32_2, hcz32_3, hfz32_0, hfz32_1, hfz32_2, hfz32_3⟩ := YA BK197.out; obtain ⟨Ao33, co33, eo33⟩ := Kd.R_slice HO207.out; subst eo33; obtain ⟨Ao34, co34, eo34⟩ := Kd.N_slice HO210.out; subst eo34))
  refine bodyPost_ret (results_cell_row rfl _ _ gb197 37 #[.int .i64 t203, .string t204, .slice Ao33 t205.length co33, .slice Ao34 t208.length co34] (0, 0) _ rfl (by (with_reducible repeat (first | refine Yg ?_ _ | refine Ya ?_ | refine Ye ?_ _)); exact YD (cs := #[.int .i64 t203, .string t204, .slice Ao33 t205.length co33, .slice none 0 0]) (by (with_reducible repeat (first | refine Yg ?_ _ | refine Ya ?_ | refine Ye ?_ _)); exact YD (cs := #[.int .i64 t203, .string t204, .slice none 0 0, .slice none 0 0]) (by (with_reducible repeat (first | refine Yg ?_ _ | refine Ya ?_ | refine Ye ?_ _)); exact YD (cs := #[.int .i64 t203, .string (⟨#[]⟩ : ByteArray), .slice none 0 0, .slice none 0 0]) Z1 1 _ rfl) 2 _ rfl) 3 _ rfl) Tryd.underlying37 rfl Z6) rfl ?_
  exact ⟨_, _, Z2, by (with_reducible repeat (first | apply Kd.R_alloc | apply Kd.R_drewN | apply Kd.R_drew)); exact Kd.R_mono (Kd.R_far (p := ⟨gb197, 3, none⟩) (Kd.R_far (p := ⟨gb197, 2, none⟩) (Kd.R_far (p := ⟨gb197, 1, none⟩) (Kd.R_far (p := ⟨gb197, 0, none⟩) (Kd.R_types HO207.out BK197.out (by decide)) (fun _ hk => hk.2) (.int .i64 t203)) (fun _ hk => hk.2) (.string t204)) (fun _ hk => hk.2) (.slice Ao33 t205.length co33)) (fun _ hk => hk.2) (.slice Ao34 t208.length co34)) (fun _ hk => hk.1.1), by (with_reducible repeat (first | apply Kd.N_alloc | apply Kd.N_drewN | apply Kd.N_drew)); exact Kd.N_mono (Kd.N_far (p := ⟨gb197, 3, none⟩) (Kd.N_far (p := ⟨gb197, 2, none⟩) (Kd.N_far (p := ⟨gb197, 1, none⟩) (Kd.N_far (p := ⟨gb197, 0, none⟩) (Kd.N_mono HO210.out (fun k_ hk => (⟨hk, hk.2.2.1⟩ : _ ∧ k_ ≠ gb197))) (fun _ hk => hk.2) (.int .i64 t203)) (fun _ hk => hk.2) (.string t204)) (fun _ hk => hk.2) (.slice Ao33 t205.length co33)) (fun _ hk => hk.2) (.slice Ao34 t208.length co34)) (fun _ hk => ⟨hk.1.1, hk.1.2.1⟩), QI75_0, QB, QK⟩
set_option maxHeartbeats 8000000 in
set_option maxRecDepth 100000 in
theorem YN.step (k : Nat) (ih : ∀ j_ < k, Yq.Spec j_ ∧ Yz.Spec j_ ∧ Yf.Spec j_ ∧ YG.Spec j_ ∧ YN.Spec j_) : ∀ (g : Nat) (s0_0 : ByteArray) (s0_1 : Int) (s0_2 : Int) (s0_3 : Int) (a1 : Int) (r1 : Int) (r2 : ByteArray) (r3 : List ByteArray) (r4 : List (S37)) (r5 : ByteArray) (r6 : Int) (r7 : Int) (r8 : Int) (w0 w : World) (hI : Yw w0 w g s0_0 s0_1 s0_2 s0_3) (hB : Below w0.heap.size w0 w) (hT : Tabs w0) (h : YN.f k s0_0 s0_1 s0_2 s0_3 a1 = some (r1, r2, r3, r4, r5, r6, r7, r8)),
  Calls Tryd.prog 134 #[.pointer (some ⟨g, 0, none⟩), .int .i64 a1] w fun e w' => ∃ v2_ v3_ : Value, e = .returned (.agg #[.int .i64 r1, .string r2, v2_, v3_]) ∧ Kd.R Kd.string 9 w' w.heap.size (fun k_ => (w.heap.size ≤ k_)) v2_ r3 ∧ Kd.N k37 37 w' w.heap.size (fun k_ => (w.heap.size ≤ k_) ∧ some k_ ≠ (v2_ : Value).ownBlock) v3_ r4 ∧ Yw w0 w' g r5 r6 r7 r8 ∧ Below w0.heap.size w0 w' ∧ Y1 w w' g none := by
 intro g s0_0 s0_1 s0_2 s0_3 a1 r1 r2 r3 r4 r5 r6 r7 r8 w0 w hI hB hT h
 cases k with
 | zero => exact absurd h (by simp [YN.f])
 | succ k =>
 simp only [YN.f] at h
 have HT := Y0.mk hT
 clear hT
 have hu37 := Tryd.underlying37
 have HI0 := Y0.mk hI
 have HK := Y0.mk (Y1.refl w g none)
 have HL := Y0.mk hB.size
 clear hI
 have HW0 := Y0.mk hB.size
 have HB := Y0.mk hB
 clear hB
 have H : ((Yj.f k s0_0 s0_1 s0_2 s0_3).bind fun bt243 => (if bt243.1 = 60 then ((YR.f k bt243.2.1 bt243.2.2.1 bt243.2.2.2.1 bt243.2.2.2.2).bind fun bt248 => (some (1, bt248.1, ([] : List ByteArray), ([] : List (S37)), bt248.2.1, bt248.2.2.1, bt248.2.2.2.1, bt248.2.2.2.2))) else (if bt243.1 = 33 then ((Yi.f k bt243.2.1 (wrap64 (bt243.2.2.1 + 1)) bt243.2.2.2.1 bt243.2.2.2.2).bind fun bt253 => (some (bt253.1, bt253.2.1, bt253.2.2.1, bt253.2.2.2.1, bt253.2.2.2.2.1, bt253.2.2.2.2.2.1, bt253.2.2.2.2.2.2.1, bt253.2.2.2.2.2.2.2))) else (if bt243.1 = 40 then (if a1 ≥ 5 then ((Ys.f bt243.2.1 bt243.2.2.1 bt243.2.2.2.1 bt243.2.2.2.2 bt243.2.2.1 3).bind fun bt265 => (some (bt265.1, bt265.2.1, bt265.2.2.1, bt265.2.2.2.1, bt265.2.2.2.2.1, bt265.2.2.2.2.2.1, bt265.2.2.2.2.2.2.1, bt265.2.2.2.2.2.2.2))) else ((Yq.f k bt243.2.1 (wrap64 (bt243.2.2.1 + 1)) bt243.2.2.2.1 bt243.2.2.2.2 (wrap64 (a1 + 1))).bind fun bt277 => ((YU.f k bt277.2.2.2.2.1 bt277.2.2.2.2.2.1 bt277.2.2.2.2.2.2.1 bt277.2.2.2.2.2.2.2 41).bind fun bt290 => (some (bt277.1, bt277.2.1, bt277.2.2.1, bt277.2.2.2.1, bt290.1, bt290.2.1, bt290.2.2.1, bt290.2.2.2))))) else ((Ys.f bt243.2.1 bt243.2.2.1 bt243.2.2.2.1 bt243.2.2.2.2 bt243.2.2.1 2).bind fun bt294 => (some (bt294.1, bt294.2.1, bt294.2.2.1, bt294.2.2.2.1, bt294.2.2.2.2.1, bt294.2.2.2.2.2.1, bt294.2.2.2.2.2.2.1, bt294.2.2.2.2.2.2.2))))))) = some (r1, r2, r3, r4, r5, r6, r7, r8) := h
 clear h
 replace H := Option.bind_eq_some_iff.mp H
 obtain ⟨⟨t243, t244, t245, t246, t247⟩, A30, H⟩ := H
 replace H : (if t243 = 60 then ((YR.f k t244 t245 t246 t247).bind fun bt248 => (some (1, bt248.1, ([] : List ByteArray), ([] : List (S37)), bt248.2.1, bt248.2.2.1, bt248.2.2.2.1, bt248.2.2.2.2))) else (if t243 = 33 then ((Yi.f k t244 (wrap64 (t245 + 1)) t246 t247).bind fun bt253 => (some (bt253.1, bt253.2.1, bt253.2.2.1, bt253.2.2.2.1, bt253.2.2.2.2.1, bt253.2.2.2.2.2.1, bt253.2.2.2.2.2.2.1, bt253.2.2.2.2.2.2.2))) else (if t243 = 40 then (if a1 ≥ 5 then ((Ys.f t244 t245 t246 t247 t245 3).bind fun bt265 => (some (bt265.1, bt265.2.1, bt265.2.2.1, bt265.2.2.2.1, bt265.2.2.2.2.1, bt265.2.2.2.2.2.1, bt265.2.2.2.2.2.2.1, bt265.2.2.2.2.2.2.2))) else ((Yq.f k t244 (wrap64 (t245 + 1)) t246 t247 (wrap64 (a1 + 1))).bind fun bt277 => ((YU.f k bt277.2.2.2.2.1 bt277.2.2.2.2.2.1 bt277.2.2.2.2.2.2.1 bt277.2.2.2.2.2.2.2 41).bind fun bt290 => (some (bt277.1, bt277.2.1, bt277.2.2.1, bt277.2.2.2.1, bt290.1, bt290.2.1, bt290.2.2.1, bt290.2.2.2))))) else ((Ys.f t244 t245 t246 t247 t245 2).bind fun bt294 => (some (bt294.1, bt294.2.1, bt294.2.2.1, bt294.2.2.2.1, bt294.2.2.2.2.1, bt294.2.2.2.2.2.1, bt294.2.2.2.2.2.2.1, bt294.2.2.2.2.2.2.2)))))) = some (r1, r2, r3, r4, r5, r6, r7, r8) := H
 have A3 := Y0.mk A30
 clear A30
 by_cases c4 : t243 = 60
 ·rw [if_pos c4] at H
  have c4b0 : (t243 == 60) = true := beq_iff_eq.mpr c4
  have c4b1 : (t243 != 60) = false := bne_eq_false_iff_eq.mpr c4
  clear c4
  replace H := Option.bind_eq_some_iff.mp H
  obtain ⟨⟨t248, t249, t250, t251, t252⟩, A50, H⟩ := H
  replace H : (some (1, t248, ([] : List ByteArray), ([] : List (S37)), t249, t250, t251, t252)) = some (r1, r2, r3, r4, r5, r6, r7, r8) := H
  have A5 := Y0.mk A50
  clear A50
  simp only [Option.some.injEq, Prod.mk.injEq] at H
  obtain ⟨rfl, rfl, rfl, rfl, rfl, rfl, rfl, rfl⟩ := H
  go_enter Tryd.func134, Tryd.ntmps134
  go_wp2_with (first | ((with_reducible refine YF (N := 4) rfl ?_); refine YE ?hg (N := 4) ?hd (cs := #[.int .i64 0, .string (⟨#[]⟩ : ByteArray), .slice none 0 0, .slice none 0 0]) (t := 37) ?hr ?_; (case hd => rfl); (case hg => rfl); (case hr => exact Za); intro gb242 hg w6 hbox hb; have n_ := Y4q (Yw.below QI75_0 hb) (Y1.trans QK (Y1.of_below hb g none) (.inl rfl)) (Yb QB hb) (hbox) ((by rw [hg]; exact (Y8 (w := w) (g := g) (row := none) QK) : w.heap.size ≤ gb242)) ((Nat.le_trans HW0.out (by rw [hg]; exact (Y8 (w := w) (g := g) (row := none) QK) : w.heap.size ≤ gb242) : w0.heap.size ≤ gb242)) ((by rw [hg]; exact Nat.ne_of_lt (Yw.lt (show Yw w0 _ g s0_0 s0_1 s0_2 s0_3 from QI75_0)) : g ≠ gb242)) ((by rw [hg]; exact Nat.ne_of_gt (Yw.lt (show Yw w0 _ g s0_0 s0_1 s0_2 s0_3 from QI75_0)) : gb242 ≠ g)); clear HI0 HK HB; obtain ⟨HI0, HK, HB, BK242, GW242, GE242, NB0_242, NB242_0⟩ := n_; clear hb hbox hg) | ((with_reducible refine Yn (f := 53) rfl ?_); refine YO (some 7) rfl rfl Tryd.func53 Z6 rfl #[.pointer (some ⟨g, 0, none⟩)] rfl Z0 ?_; (with_reducible refine (Yj.calls k g s0_0 s0_1 s0_2 s0_3 t243 t244 t245 t246 t247 w0 _ ?side1 ?side2 A3.out).mono ?_); (case side1 => exact Z1e); (case side2 => exact QB); rintro e w7 ⟨rfl, hi, hb, hk⟩; refine ⟨_, rfl, ?_⟩; have n_ := Y31 (Y1.blk hk (g' := gb242) (o := .cells #[.int .i64 0, .string (⟨#[]⟩ : ByteArray), .slice none 0 0, .slice none 0 0] 37 (0, 0)) QQ NB242_0.out (by simp)) (Y1.trans QK hk (.inl rfl)) (hb) (hi); clear BK242 HK HB HI0; obtain ⟨BK242, HK, HB, HI0⟩ := n_; (try clear hb); (try clear hb2); (try clear hk); (try clear hi)) | ((with_reducible refine Yn (f := 140) rfl ?_); refine YO (some 11) rfl rfl Tryd.func140 Z6 rfl #[.pointer (some ⟨g, 0, none⟩)] rfl Z0 ?_; (with_reducible refine (YR.calls k g t244 t245 t246 t247 t248 t249 t250 t251 t252 w0 _ ?side1 ?side2 ?side3 A5.out).mono ?_); (case side1 => exact Z1e); (case side2 => exact QB); (case side3 => exact Z1O); rintro e w8 ⟨rfl, hi, hb, hk⟩; refine ⟨_, rfl, ?_⟩; have n_ := Y31 (Y1.blk hk (g' := gb242) (o := .cells #[.int .i64 0, .string (⟨#[]⟩ : ByteArray), .slice none 0 0, .slice none 0 0] 37 (0, 0)) QQ NB242_0.out (by simp)) (Y1.trans QK hk (.inl rfl)) (hb) (hi); clear BK242 HK HB HI0; obtain ⟨BK242, HK, HB, HI0⟩ := n_; (try clear hb); (try clear hb2); (try clear hk); (try clear hi); have hnb9 := NB242_0.out; have hnc9 := NB0_242.out; obtain ⟨hcz10_0, hcz10_1, hcz10_2, hcz10_3, hfz10_0, hfz10_1, hfz10_2, hfz10_3⟩ := YA BK242.out))
  refine bodyPost_ret (results_cell_row rfl _ _ gb242 37 #[.int .i64 1, .string t248, .slice none 0 0, .slice none 0 0] (0, 0) _ rfl (by (with_reducible repeat (first | refine Yg ?_ _ | refine Ya ?_ | refine Ye ?_ _)); exact YD (cs := #[.int .i64 1, .string t248, .slice none 0 0, .slice none 0 0]) (by (with_reducible repeat (first | refine Yg ?_ _ | refine Ya ?_ | refine Ye ?_ _)); exact YD (cs := #[.int .i64 1, .string t248, .slice none 0 0, .slice none 0 0]) Z2e 2 _ rfl) 3 _ rfl) Tryd.underlying37 rfl Z6) rfl ?_
  exact ⟨_, _, Z2, Z5, Z5, QI75_0, QB, QK⟩
 ·rw [if_neg c4] at H
  have c4b0 : (t243 == 60) = false := beq_eq_false_iff_ne.mpr c4
  have c4b1 : (t243 != 60) = true := bne_iff_ne.mpr c4
  by_cases c11 : t243 = 33
  ·rw [if_pos c11] at H
   have c11b0 : (t243 == 33) = true := beq_iff_eq.mpr c11
   have c11b1 : (t243 != 33) = false := bne_eq_false_iff_eq.mpr c11
   clear c11
   replace H := Option.bind_eq_some_iff.mp H
   obtain ⟨⟨t253, t254, t255, t258, t261, t262, t263, t264⟩, A120, H⟩ := H
   replace H : (some (t253, t254, t255, t258, t261, t262, t263, t264)) = some (r1, r2, r3, r4, r5, r6, r7, r8) := H
   have A12 := Y0.mk A120
   clear A120
   simp only [Option.some.injEq, Prod.mk.injEq] at H
   obtain ⟨rfl, rfl, rfl, rfl, rfl, rfl, rfl, rfl⟩ := H
   go_enter Tryd.func134, Tryd.ntmps134
   go_wp2_with (first | ((with_reducible refine YF (N := 4) rfl ?_); refine YE ?hg (N := 4) ?hd (cs := #[.int .i64 0, .string (⟨#[]⟩ : ByteArray), .slice none 0 0, .slice none 0 0]) (t := 37) ?hr ?_; (case hd => rfl); (case hg => rfl); (case hr => exact Za); intro gb242 hg w13 hbox hb; have n_ := Y4q (Yw.below QI75_0 hb) (Y1.trans QK (Y1.of_below hb g none) (.inl rfl)) (Yb QB hb) (hbox) ((by rw [hg]; exact (Y8 (w := w) (g := g) (row := none) QK) : w.heap.size ≤ gb242)) ((Nat.le_trans HW0.out (by rw [hg]; exact (Y8 (w := w) (g := g) (row := none) QK) : w.heap.size ≤ gb242) : w0.heap.size ≤ gb242)) ((by rw [hg]; exact Nat.ne_of_lt (Yw.lt (show Yw w0 _ g s0_0 s0_1 s0_2 s0_3 from QI75_0)) : g ≠ gb242)) ((by rw [hg]; exact Nat.ne_of_gt (Yw.lt (show Yw w0 _ g s0_0 s0_1 s0_2 s0_3 from QI75_0)) : gb242 ≠ g)); clear HI0 HK HB; obtain ⟨HI0, HK, HB, BK242, GW242, GE242, NB0_242, NB242_0⟩ := n_; clear hb hbox hg) | ((with_reducible refine Yn (f := 53) rfl ?_); refine YO (some 7) rfl rfl Tryd.func53 Z6 rfl #[.pointer (some ⟨g, 0, none⟩)] rfl Z0 ?_; (with_reducible refine (Yj.calls k g s0_0 s0_1 s0_2 s0_3 t243 t244 t245 t246 t247 w0 _ ?side1 ?side2 A3.out).mono ?_); (case side1 => exact Z1e); (case side2 => exact QB); rintro e w14 ⟨rfl, hi, hb, hk⟩; refine ⟨_, rfl, ?_⟩; have n_ := Y31 (Y1.blk hk (g' := gb242) (o := .cells #[.int .i64 0, .string (⟨#[]⟩ : ByteArray), .slice none 0 0, .slice none 0 0] 37 (0, 0)) QQ NB242_0.out (by simp)) (Y1.trans QK hk (.inl rfl)) (hb) (hi); clear BK242 HK HB HI0; obtain ⟨BK242, HK, HB, HI0⟩ := n_; (try clear hb); (try clear hb2); (try clear hk); (try clear hi); obtain ⟨HGz15, hgz15⟩ := HI0.out; have hcz15_0 := YZ HGz15; have hcz15_1 := Y10 HGz15; have hcz15_2 := Y11 HGz15; have hcz15_3 := Y12 HGz15; have hfz15_0 := Y7 HGz15 0; have hfz15_1 := Y7 HGz15 1; have hfz15_2 := Y7 HGz15 2; have hfz15_3 := Y7 HGz15 3; clear HGz15 hgz15) | ((with_reducible refine Yn (f := 141) rfl ?_); refine YO (some 23) rfl rfl Tryd.func141 Z6 rfl #[.pointer (some ⟨g, 0, none⟩)] rfl Z0 ?_; (with_reducible refine (Yi.calls k g t244 (wrap64 (t245 + 1)) t246 t247 t253 t254 t255 t258 t261 t262 t263 t264 w0 _ ?side1 ?side2 ?side3 A12.out).mono ?_); (case side1 => exact Z1e); (case side2 => exact QB); (case side3 => exact Z1O); rintro e w16 ⟨v256, v259, rfl, ho0, ho1, hi, hb, hk⟩; refine ⟨_, rfl, ?_⟩; have n0_ := Y0.mk (Y1.blk hk (g' := gb242) (o := .cells #[.int .i64 0, .string (⟨#[]⟩ : ByteArray), .slice none 0 0, .slice none 0 0] 37 (0, 0)) Z16 NB242_0.out (by simp)); have n1_ := Y0.mk (Kd.R_lower (Kd.R_newM (M := fun k_ => (w.heap.size ≤ k_)) ho0 (Y8 (w := w) (g := g) (row := none) QK) (fun k_ h_ => h_)) (Y8 (w := w) (g := g) (row := none) QK)); have n2_ := Y0.mk (Kd.N_lower (Kd.N_mono (ok' := fun k_ => (w.heap.size ≤ k_) ∧ some k_ ≠ (v256 : Value).ownBlock ∧ k_ ≠ gb242 ∧ k_ ≠ g) (Kd.R_N (Kd.R_bound ho1)) (fun k_ hk_ => ⟨(Nat.le_trans (Y8 (w := w) (g := g) (row := none) QK) hk_.2.1), hk_.1, (Kd.freshB (g := gb242) (o := .cells #[.int .i64 0, .string (⟨#[]⟩ : ByteArray), .slice none 0 0, .slice none 0 0] 37 (0, 0)) Z16 k_ hk_.2.1), (Yw.fresh QI75_0 k_ hk_.2.1)⟩)) (Y8 (w := w) (g := g) (row := none) QK)); have n3_ := Y0.mk (Y1.trans QK hk (.inl rfl)); have n4_ := Y0.mk (hb); have n5_ := Y0.mk (hi); clear BK242 HK HB HI0; have BK242 := n0_; have HO257 := n1_; have HO260 := n2_; have HK := n3_; have HB := n4_; have HI0 := n5_; clear n0_ n1_ n2_ n3_ n4_ n5_; (try clear hb); (try clear hb2); (try clear hk); (try clear hi); (try clear ho0); (try clear ho1); have hnb17 := NB242_0.out; have hnc17 := NB0_242.out; obtain ⟨hcz18_0, hcz18_1, hcz18_2, hcz18_3, hfz18_0, hfz18_1, hfz18_2, hfz18_3⟩ := YA BK242.out; obtain ⟨Ao19, co19, eo19⟩ := Kd.R_slice HO257.out; subst eo19; obtain ⟨Ao20, co20, eo20⟩ := Kd.N_slice HO260.out; subst eo20))
   refine bodyPost_ret (results_cell_row rfl _ _ gb242 37 #[.int .i64 t253, .string t254, .slice Ao19 t255.length co19, .slice Ao20 t258.length co20] (0, 0) _ rfl (by (with_reducible repeat (first | refine Yg ?_ _ | refine Ya ?_ | refine Ye ?_ _)); exact YD (cs := #[.int .i64 t253, .string t254, .slice Ao19 t255.length co19, .slice none 0 0]) (by (with_reducible repeat (first | refine Yg ?_ _ | refine Ya ?_ | refine Ye ?_ _)); exact YD (cs := #[.int .i64 t253, .string t254, .slice none 0 0, .slice none 0 0]) (by (with_reducible repeat (first | refine Yg ?_ _ | refine Ya ?_ | refine Ye ?_ _)); exact YD (cs := #[.int .i64 t253, .string (⟨#[]⟩ : ByteArray), .slice none 0 0, .slice none 0 0]) Z1 1 _ rfl) 2 _ rfl) 3 _ rfl) Tryd.underlying37 rfl Z6) rfl ?_
   exact ⟨_, _, Z2, by (with_reducible repeat (first | apply Kd.R_alloc | apply Kd.R_drewN | apply Kd.R_drew)); exact Kd.R_mono (Kd.R_far (p := ⟨gb242, 3, none⟩) (Kd.R_far (p := ⟨gb242, 2, none⟩) (Kd.R_far (p := ⟨gb242, 1, none⟩) (Kd.R_far (p := ⟨gb242, 0, none⟩) (Kd.R_types HO257.out BK242.out (by decide)) (fun _ hk => hk.2) (.int .i64 t253)) (fun _ hk => hk.2) (.string t254)) (fun _ hk => hk.2) (.slice Ao19 t255.length co19)) (fun _ hk => hk.2) (.slice Ao20 t258.length co20)) (fun _ hk => hk.1.1), by (with_reducible repeat (first | apply Kd.N_alloc | apply Kd.N_drewN | apply Kd.N_drew)); exact Kd.N_mono (Kd.N_far (p := ⟨gb242, 3, none⟩) (Kd.N_far (p := ⟨gb242, 2, none⟩) (Kd.N_far (p := ⟨gb242, 1, none⟩) (Kd.N_far (p := ⟨gb242, 0, none⟩) (Kd.N_mono HO260.out (fun k_ hk => (⟨hk, hk.2.2.1⟩ : _ ∧ k_ ≠ gb242))) (fun _ hk => hk.2) (.int .i64 t253)) (fun _ hk => hk.2) (.string t254)) (fun _ hk => hk.2) (.slice Ao19 t255.length co19)) (fun _ hk => hk.2) (.slice Ao20 t258.length co20)) (fun _ hk => ⟨hk.1.1, hk.1.2.1⟩), QI75_0, QB, QK⟩
  ·rw [if_neg c11] at H
   have c11b0 : (t243 == 33) = false := beq_eq_false_iff_ne.mpr c11
   have c11b1 : (t243 != 33) = true := bne_iff_ne.mpr c11
   by_cases c21 : t243 = 40
   ·rw [if_pos c21] at H
    have c21b0 : (t243 == 40) = true := beq_iff_eq.mpr c21
    have c21b1 : (t243 != 40) = false := bne_eq_false_iff_eq.mpr c21
    clear c21
    by_cases c22 : a1 ≥ 5
    ·rw [if_pos c22] at H
     have c22b0 : decide (5 ≤ a1) = true := decide_eq_true c22
     clear c22
     replace H := Option.bind_eq_some_iff.mp H
     obtain ⟨⟨t265, t266, t267, t270, t273, t274, t275, t276⟩, A230, H⟩ := H
     replace H : (some (t265, t266, t267, t270, t273, t274, t275, t276)) = some (r1, r2, r3, r4, r5, r6, r7, r8) := H
     have A23 := Y0.mk A230
     clear A230
     simp only [Option.some.injEq, Prod.mk.injEq] at H
     obtain ⟨rfl, rfl, rfl, rfl, rfl, rfl, rfl, rfl⟩ := H
     go_enter Tryd.func134, Tryd.ntmps134
     go_wp2_with (first | ((with_reducible refine YF (N := 4) rfl ?_); refine YE ?hg (N := 4) ?hd (cs := #[.int .i64 0, .string (⟨#[]⟩ : ByteArray), .slice none 0 0, .slice none 0 0]) (t := 37) ?hr ?_; (case hd => rfl); (case hg => rfl); (case hr => exact Za); intro gb242 hg w24 hbox hb; have n_ := Y4q (Yw.below QI75_0 hb) (Y1.trans QK (Y1.of_below hb g none) (.inl rfl)) (Yb QB hb) (hbox) ((by rw [hg]; exact (Y8 (w := w) (g := g) (row := none) QK) : w.heap.size ≤ gb242)) ((Nat.le_trans HW0.out (by rw [hg]; exact (Y8 (w := w) (g := g) (row := none) QK) : w.heap.size ≤ gb242) : w0.heap.size ≤ gb242)) ((by rw [hg]; exact Nat.ne_of_lt (Yw.lt (show Yw w0 _ g s0_0 s0_1 s0_2 s0_3 from QI75_0)) : g ≠ gb242)) ((by rw [hg]; exact Nat.ne_of_gt (Yw.lt (show Yw w0 _ g s0_0 s0_1 s0_2 s0_3 from QI75_0)) : gb242 ≠ g)); clear HI0 HK HB; obtain ⟨HI0, HK, HB, BK242, GW242, GE242, NB0_242, NB242_0⟩ := n_; clear hb hbox hg) | ((with_reducible refine Yn (f := 53) rfl ?_); refine YO (some 7) rfl rfl Tryd.func53 Z6 rfl #[.pointer (some ⟨g, 0, none⟩)] rfl Z0 ?_; (with_reducible refine (Yj.calls k g s0_0 s0_1 s0_2 s0_3 t243 t244 t245 t246 t247 w0 _ ?side1 ?side2 A3.out).mono ?_); (case side1 => exact Z1e); (case side2 => exact QB); rintro e w25 ⟨rfl, hi, hb, hk⟩; refine ⟨_, rfl, ?_⟩; have n_ := Y31 (Y1.blk hk (g' := gb242) (o := .cells #[.int .i64 0, .string (⟨#[]⟩ : ByteArray), .slice none 0 0, .slice none 0 0] 37 (0, 0)) QQ NB242_0.out (by simp)) (Y1.trans QK hk (.inl rfl)) (hb) (hi); clear BK242 HK HB HI0; obtain ⟨BK242, HK, HB, HI0⟩ := n_; (try clear hb); (try clear hb2); (try clear hk); (try clear hi); obtain ⟨HGz26, hgz26⟩ := HI0.out; have hcz26_0 := YZ HGz26; have hcz26_1 := Y10 HGz26; have hcz26_2 := Y11 HGz26; have hcz26_3 := Y12 HGz26; have hfz26_0 := Y7 HGz26 0; have hfz26_1 := Y7 HGz26 1; have hfz26_2 := Y7 HGz26 2; have hfz26_3 := Y7 HGz26 3; clear HGz26 hgz26) | ((with_reducible refine Yn (f := 54) rfl ?_); refine YO (some 33) rfl rfl Tryd.func54 Z6 rfl #[.pointer (some ⟨g, 0, none⟩), .int .i64 t245, .int .i64 3] rfl Z0 ?_; (with_reducible refine (Ys.calls g t244 t245 t246 t247 t245 3 t265 t266 t267 t270 t273 t274 t275 t276 w0 _ ?side1 ?side2 A23.out).mono ?_); (case side1 => exact Z1e); (case side2 => exact QB); rintro e w27 ⟨v268, v271, rfl, ho0, ho1, hi, hb, hk⟩; refine ⟨_, rfl, ?_⟩; have n0_ := Y0.mk (Y1.blk hk (g' := gb242) (o := .cells #[.int .i64 0, .string (⟨#[]⟩ : ByteArray), .slice none 0 0, .slice none 0 0] 37 (0, 0)) QQ NB242_0.out (by simp)); have n1_ := Y0.mk (Kd.R_lower (Kd.R_newM (M := fun k_ => (w.heap.size ≤ k_)) (Kd.R_mono (ok' := fun k_ => True) ho0 (fun _ hk_ => trivial)) (Y8 (w := w) (g := g) (row := none) QK) (fun k_ h_ => h_)) (Y8 (w := w) (g := g) (row := none) QK)); have n2_ := Y0.mk (Kd.N_lower (Kd.N_mono (ok' := fun k_ => (w.heap.size ≤ k_) ∧ some k_ ≠ (v268 : Value).ownBlock ∧ k_ ≠ gb242 ∧ k_ ≠ g) ho1 (fun k_ hk_ => ⟨(Nat.le_trans (Y8 (w := w) (g := g) (row := none) QK) hk_.1), hk_.2, (Kd.freshB (g := gb242) (o := .cells #[.int .i64 0, .string (⟨#[]⟩ : ByteArray), .slice none 0 0, .slice none 0 0] 37 (0, 0)) QQ k_ hk_.1), (Yw.fresh QI75_0 k_ hk_.1)⟩)) (Y8 (w := w) (g := g) (row := none) QK)); have n3_ := Y0.mk (Y1.trans QK hk (.inl rfl)); have n4_ := Y0.mk (hb); have n5_ := Y0.mk (hi); clear BK242 HK HB HI0; have BK242 := n0_; have HO269 := n1_; have HO272 := n2_; have HK := n3_; have HB := n4_; have HI0 := n5_; clear n0_ n1_ n2_ n3_ n4_ n5_; (try clear hb); (try clear hb2); (try clear hk); (try clear hi); (try clear ho0); (try clear ho1); have hnb28 := NB242_0.out; have hnc28 := NB0_242.out; obtain ⟨hcz29_0, hcz29_1, hcz29_2, hcz29_3, hfz29_0, hfz29_1, hfz29_2, hfz29_3⟩ := YA BK242.out; obtain ⟨Ao30, co30, eo30⟩ := Kd.R_slice HO269.out; subst eo30; obtain ⟨Ao31, co31, eo31⟩ := Kd.N_slice HO272.out; subst eo31))
     refine bodyPost_ret (results_cell_row rfl _ _ gb242 37 #[.int .i64 t265, .string t266, .slice Ao30 t267.length co30, .slice Ao31 t270.length co31] (0, 0) _ rfl (by (with_reducible repeat (first | refine Yg ?_ _ | refine Ya ?_ | refine Ye ?_ _)); exact YD (cs := #[.int .i64 t265, .string t266, .slice Ao30 t267.length co30, .slice none 0 0]) (by (with_reducible repeat (first | refine Yg ?_ _ | refine Ya ?_ | refine Ye ?_ _)); exact YD (cs := #[.int .i64 t265, .string t266, .slice none 0 0, .slice none 0 0]) (by (with_reducible repeat (first | refine Yg ?_ _ | refine Ya ?_ | refine Ye ?_ _)); exact YD (cs := #[.int .i64 t265, .string (⟨#[]⟩ : ByteArray), .slice none 0 0, .slice none 0 0]) Z1 1 _ rfl) 2 _ rfl) 3 _ rfl) Tryd.underlying37 rfl Z6) rfl ?_
     exact ⟨_, _, Z2, by (with_reducible repeat (first | apply Kd.R_alloc | apply Kd.R_drewN | apply Kd.R_drew)); exact Kd.R_mono (Kd.R_far (p := ⟨gb242, 3, none⟩) (Kd.R_far (p := ⟨gb242, 2, none⟩) (Kd.R_far (p := ⟨gb242, 1, none⟩) (Kd.R_far (p := ⟨gb242, 0, none⟩) (Kd.R_types HO269.out BK242.out (by decide)) (fun _ hk => hk.2) (.int .i64 t265)) (fun _ hk => hk.2) (.string t266)) (fun _ hk => hk.2) (.slice Ao30 t267.length co30)) (fun _ hk => hk.2) (.slice Ao31 t270.length co31)) (fun _ hk => hk.1.1), by (with_reducible repeat (first | apply Kd.N_alloc | apply Kd.N_drewN | apply Kd.N_drew)); exact Kd.N_mono (Kd.N_far (p := ⟨gb242, 3, none⟩) (Kd.N_far (p := ⟨gb242, 2, none⟩) (Kd.N_far (p := ⟨gb242, 1, none⟩) (Kd.N_far (p := ⟨gb242, 0, none⟩) (Kd.N_mono HO272.out (fun k_ hk => (⟨hk, hk.2.2.1⟩ : _ ∧ k_ ≠ gb242))) (fun _ hk => hk.2) (.int .i64 t265)) (fun _ hk => hk.2) (.string t266)) (fun _ hk => hk.2) (.slice Ao30 t267.length co30)) (fun _ hk => hk.2) (.slice Ao31 t270.length co31)) (fun _ hk => ⟨hk.1.1, hk.1.2.1⟩), QI75_0, QB, QK⟩
    ·rw [if_neg c22] at H
     have c22b0 : decide (5 ≤ a1) = false := decide_eq_false c22
     clear c22
     replace H := Option.bind_eq_some_iff.mp H
     obtain ⟨⟨t277, t278, t279, t282, t285, t286, t287, t288⟩, A320, H⟩ := H
     replace H : ((YU.f k t285 t286 t287 t288 41).bind fun bt290 => (some (t277, t278, t279, t282, bt290.1, bt290.2.1, bt290.2.2.1, bt290.2.2.2))) = some (r1, r2, r3, r4, r5, r6, r7, r8) := H
     have A32 := Y0.mk A320
     clear A320
     replace H := Option.bind_eq_some_iff.mp H
     obtain ⟨⟨t290, t291, t292, t293⟩, A330, H⟩ := H
     replace H : (some (t277, t278, t279, t282, t290, t291, t292, t293)) = some (r1, r2, r3, r4, r5, r6, r7, r8) := H
     have A33 := Y0.mk A330
     clear A330
     simp only [Option.some.injEq, Prod.mk.injEq] at H
     obtain ⟨rfl, rfl, rfl, rfl, rfl, rfl, rfl, rfl⟩ := H
     go_enter Tryd.func134, Tryd.ntmps134
     go_wp2_with (first | ((with_reducible refine YF (N := 4) rfl ?_); refine YE ?hg (N := 4) ?hd (cs := #[.int .i64 0, .string (⟨#[]⟩ : ByteArray), .slice none 0 0, .slice none 0 0]) (t := 37) ?hr ?_; (case hd => rfl); (case hg => rfl); (case hr => exact Za); intro gb242 hg w34 hbox hb; have n_ := Y4q (Yw.below QI75_0 hb) (Y1.trans QK (Y1.of_below hb g none) (.inl rfl)) (Yb QB hb) (hbox) ((by rw [hg]; exact (Y8 (w := w) (g := g) (row := none) QK) : w.heap.size ≤ gb242)) ((Nat.le_trans HW0.out (by rw [hg]; exact (Y8 (w := w) (g := g) (row := none) QK) : w.heap.size ≤ gb242) : w0.heap.size ≤ gb242)) ((by rw [hg]; exact Nat.ne_of_lt (Yw.lt (show Yw w0 _ g s0_0 s0_1 s0_2 s0_3 from QI75_0)) : g ≠ gb242)) ((by rw [hg]; exact Nat.ne_of_gt (Yw.lt (show Yw w0 _ g s0_0 s0_1 s0_2 s0_3 from QI75_0)) : gb242 ≠ g)); clear HI0 HK HB; obtain ⟨HI0, HK, HB, BK242, GW242, GE242, NB0_242, NB242_0⟩ := n_; clear hb hbox hg) | ((with_reducible refine Yn (f := 53) rfl ?_); refine YO (some 7) rfl rfl Tryd.func53 Z6 rfl #[.pointer (some ⟨g, 0, none⟩)] rfl Z0 ?_; (with_reducible refine (Yj.calls k g s0_0 s0_1 s0_2 s0_3 t243 t244 t245 t246 t247 w0 _ ?side1 ?side2 A3.out).mono ?_); (case side1 => exact Z1e); (case side2 => exact QB); rintro e w35 ⟨rfl, hi, hb, hk⟩; refine ⟨_, rfl, ?_⟩; have n_ := Y31 (Y1.blk hk (g' := gb242) (o := .cells #[.int .i64 0, .string (⟨#[]⟩ : ByteArray), .slice none 0 0, .slice none 0 0] 37 (0, 0)) QQ NB242_0.out (by simp)) (Y1.trans QK hk (.inl rfl)) (hb) (hi); clear BK242 HK HB HI0; obtain ⟨BK242, HK, HB, HI0⟩ := n_; (try clear hb); (try clear hb2); (try clear hk); (try clear hi); obtain ⟨HGz36, hgz36⟩ := HI0.out; have hcz36_0 := YZ HGz36; have hcz36_1 := Y10 HGz36; have hcz36_2 := Y11 HGz36; have hcz36_3 := Y12 HGz36; have hfz36_0 := Y7 HGz36 0; have hfz36_1 := Y7 HGz36 1; have hfz36_2 := Y7 HGz36 2; have hfz36_3 := Y7 HGz36 3; clear HGz36 hgz36) | ((with_reducible refine Yn (f := 52) rfl ?_); refine YO (some 44) rfl rfl Tryd.func52 Z6 rfl #[.pointer (some ⟨g, 0, none⟩), .int .i64 (wrap64 (a1 + 1))] rfl Z0 ?_; (with_reducible refine ((ih k (by omega)).1 g t244 (wrap64 (t245 + 1)) t246 t247 (wrap64 (a1 + 1)) t277 t278 t279 t282 t285 t286 t287 t288 w0 _ ?side1 ?side2 ?side3 A32.out).mono ?_); (case side1 => exact Z1e); (case side2 => exact QB); (case side3 => exact Z1O); rintro e w37 ⟨v280, v283, rfl, ho0, ho1, hi, hb, hk⟩; refine ⟨_, rfl, ?_⟩; have n0_ := Y0.mk (Y1.blk hk (g' := gb242) (o := .cells #[.int .i64 0, .string (⟨#[]⟩ : ByteArray), .slice none 0 0, .slice none 0 0] 37 (0, 0)) Z16 NB242_0.out (by simp)); have n1_ := Y0.mk (Kd.R_lower (Kd.R_newM (M := fun k_ => (w.heap.size ≤ k_)) (Kd.R_mono (ok' := fun k_ => True) ho0 (fun _ hk_ => trivial)) (Y8 (w := w) (g := g) (row := none) QK) (fun k_ h_ => h_)) (Y8 (w := w) (g := g) (row := none) QK)); have n2_ := Y0.mk (Kd.N_lower (Kd.N_mono (ok' := fun k_ => (w.heap.size ≤ k_) ∧ some k_ ≠ (v280 : Value).ownBlock ∧ k_ ≠ gb242 ∧ k_ ≠ g) ho1 (fun k_ hk_ => ⟨(Nat.le_trans (Y8 (w := w) (g := g) (row := none) QK) hk_.1), hk_.2, (Kd.freshB (g := gb242) (o := .cells #[.int .i64 0, .string (⟨#[]⟩ : ByteArray), .slice none 0 0, .slice none 0 0] 37 (0, 0)) Z16 k_ hk_.1), (Yw.fresh QI75_0 k_ hk_.1)⟩)) (Y8 (w := w) (g := g) (row := none) QK)); have n3_ := Y0.mk (Y1.trans QK hk (.inl rfl)); have n4_ := Y0.mk (hb); have n5_ := Y0.mk (hi); clear BK242 HK HB HI0; have BK242 := n0_; have HO281 := n1_; have HO284 := n2_; have HK := n3_; have HB := n4_; have HI0 := n5_; clear n0_ n1_ n2_ n3_ n4_ n5_; (try clear hb); (try clear hb2); (try clear hk); (try clear hi); (try clear ho0); (try clear ho1)) | ((with_reducible refine YF (N := 5) rfl ?_); refine YE ?hg (N := 5) ?hd (cs := #[.int .i64 0, .string (⟨#[]⟩ : ByteArray), .slice none 0 0, .slice none 0 0]) (t := 37) ?hr ?_; (case hd => rfl); (case hg => rfl); (case hr => exact Za); intro gb289 hg w38 hbox hb; have n0_ := Y0.mk (Kd.R_below (by (with_reducible repeat (first | apply Kd.R_alloc | apply Kd.R_drewN | apply Kd.R_drew)); exact HO281.out) hb); have n1_ := Y0.mk (Kd.N_below (Kd.N_elderB (by (with_reducible repeat (first | apply Kd.N_alloc | apply Kd.N_drewN | apply Kd.N_drew)); exact HO284.out) gb289 (Nat.le_of_eq hg.symm)) hb); have n2_ := Y0.mk (Yw.below QI75_0 hb); have n3_ := Y0.mk (Yu (g := gb242) (o := .cells #[.int .i64 0, .string (⟨#[]⟩ : ByteArray), .slice none 0 0, .slice none 0 0] 37 (0, 0)) QQ hb); have n4_ := Y0.mk (Y1.trans QK (Y1.of_below hb g none) (.inl rfl)); have n5_ := Y0.mk (Yb QB hb); have n6_ := Y0.mk (hbox); have n7_ := Y0.mk ((by rw [hg]; exact (Y8 (w := w) (g := g) (row := none) QK) : w.heap.size ≤ gb289)); have n8_ := Y0.mk ((Nat.le_trans HW0.out (by rw [hg]; exact (Y8 (w := w) (g := g) (row := none) QK) : w.heap.size ≤ gb289) : w0.heap.size ≤ gb289)); have n9_ := Y0.mk ((by rw [hg]; exact Nat.ne_of_lt (Y15 (g := gb242) (o := .cells #[.int .i64 0, .string (⟨#[]⟩ : ByteArray), .slice none 0 0, .slice none 0 0] 37 (0, 0)) QQ) : gb242 ≠ gb289)); have n10_ := Y0.mk ((by rw [hg]; exact Nat.ne_of_gt (Y15 (g := gb242) (o := .cells #[.int .i64 0, .string (⟨#[]⟩ : ByteArray), .slice none 0 0, .slice none 0 0] 37 (0, 0)) QQ) : gb289 ≠ gb242)); have n11_ := Y0.mk ((by rw [hg]; exact Nat.ne_of_lt (Yw.lt (show Yw w0 _ g t285 t286 t287 t288 from QI75_0)) : g ≠ gb289)); have n12_ := Y0.mk ((by rw [hg]; exact Nat.ne_of_gt (Yw.lt (show Yw w0 _ g t285 t286 t287 t288 from QI75_0)) : gb289 ≠ g)); clear HO281 HO284 HI0 BK242 HK HB; have HO281 := n0_; have HO284 := n1_; have HI0 := n2_; have BK242 := n3_; have HK := n4_; have HB := n5_; have BK289 := n6_; have GW289 := n7_; have GE289 := n8_; have NB242_289 := n9_; have NB289_242 := n10_; have NB0_289 := n11_; have NB289_0 := n12_; clear n0_ n1_ n2_ n3_ n4_ n5_ n6_ n7_ n8_ n9_ n10_ n11_ n12_ hb hbox hg; have hnb39 := NB289_242.out; have hnc39 := NB242_289.out; have hnb40 := NB289_0.out; have hnc40 := NB0_289.out; obtain ⟨hcz41_0, hcz41_1, hcz41_2, hcz41_3, hfz41_0, hfz41_1, hfz41_2, hfz41_3⟩ := YA BK289.out; obtain ⟨Ao42, co42, eo42⟩ := Kd.R_slice HO281.out; subst eo42; obtain ⟨Ao43, co43, eo43⟩ := Kd.N_slice HO284.out; subst eo43) | ((with_reducible refine Yn (f := 142) rfl ?_); refine YO (some 46) rfl rfl Tryd.func142 Z6 rfl #[.pointer (some ⟨g, 0, none⟩), .int .u8 41] rfl Z0 ?_; (with_reducible refine (YU.calls k g t285 t286 t287 t288 41 t290 t291 t292 t293 w0 _ ?side1 ?side2 A33.out).mono ?_); (case side1 => exact Z1e); (case side2 => exact QB); rintro e w44 ⟨rfl, hi, hb, hk⟩; refine ⟨_, rfl, ?_⟩; have n0_ := Y0.mk (Y1.blk hk (g' := gb242) (o := .cells #[.int .i64 0, .string (⟨#[]⟩ : ByteArray), .slice none 0 0, .slice none 0 0] 37 (0, 0)) (by (with_reducible repeat (first | refine Yg ?_ _ | refine Ya ?_ | refine Ye ?_ _)); exact Y14 (by (with_reducible repeat (first | refine Yg ?_ _ | refine Ya ?_ | refine Ye ?_ _)); exact Y14 (by (with_reducible repeat (first | refine Yg ?_ _ | refine Ya ?_ | refine Ye ?_ _)); exact Y14 (by (with_reducible repeat (first | refine Yg ?_ _ | refine Ya ?_ | refine Ye ?_ _)); exact Y14 QQ NB242_289.out _) NB242_289.out _) NB242_289.out _) NB242_289.out _) NB242_0.out (by simp)); have n1_ := Y0.mk (Kd.R_mono (Kd.R_keep (Yw.apart (show Yw w0 _ g t285 t286 t287 t288 from QI75_0) (by (with_reducible repeat (first | apply Kd.R_alloc | apply Kd.R_drewN | apply Kd.R_drew)); exact (Kd.R_mono (Kd.R_far (p := ⟨gb289, 3, none⟩) (Kd.R_far (p := ⟨gb289, 2, none⟩) (Kd.R_far (p := ⟨gb289, 1, none⟩) (Kd.R_far (p := ⟨gb289, 0, none⟩) (Kd.R_types HO281.out BK289.out (by decide)) (fun _ hk => hk.2) (.int .i64 t277)) (fun _ hk => hk.2) (.string t278)) (fun _ hk => hk.2) (.slice Ao42 t279.length co42)) (fun _ hk => hk.2) (.slice Ao43 t282.length co43)) (fun _ h_ => h_.1))) (by decide)) hk (fun _ h => h.2)) (fun _ h => h.1)); have n2_ := Y0.mk (Kd.N_mono (Kd.N_keep (Kd.N_mono (ok := fun k_ => ((((w.heap.size ≤ k_)) ∧ (some k_ ≠ (.slice Ao42 t279.length co42 : Value).ownBlock ∧ (k_ ≠ gb242 ∧ k_ ≠ g))) ∧ k_ ≠ gb289)) (by (with_reducible repeat (first | apply Kd.N_alloc | apply Kd.N_drewN | apply Kd.N_drew)); exact (Kd.N_mono (Kd.N_far (p := ⟨gb289, 3, none⟩) (Kd.N_far (p := ⟨gb289, 2, none⟩) (Kd.N_far (p := ⟨gb289, 1, none⟩) (Kd.N_far (p := ⟨gb289, 0, none⟩) (Kd.N_mono HO284.out (fun k_ hk => (⟨hk, hk.2⟩ : _ ∧ k_ ≠ gb289))) (fun _ hk => hk.2) (.int .i64 t277)) (fun _ hk => hk.2) (.string t278)) (fun _ hk => hk.2) (.slice Ao42 t279.length co42)) (fun _ hk => hk.2) (.slice Ao43 t282.length co43)) (fun _ h_ => h_.1))) (fun k_ hk_ => (⟨hk_, hk_.1.2.2.2⟩ : _ ∧ k_ ≠ g))) hk (fun _ h => h.2)) (fun _ h => h.1)); have n3_ := Y0.mk (Y1.blk hk (g' := gb289) (o := .cells #[.int .i64 t277, .string t278, .slice Ao42 t279.length co42, .slice Ao43 t282.length co43] 37 (0, 0)) Z25 NB289_0.out (by simp)); have n4_ := Y0.mk (Y1.trans QK hk (.inl rfl)); have n5_ := Y0.mk (hb); have n6_ := Y0.mk (hi); clear BK242 HO281 HO284 BK289 HK HB HI0; have BK242 := n0_; have HO281 := n1_; have HO284 := n2_; have BK289 := n3_; have HK := n4_; have HB := n5_; have HI0 := n6_; clear n0_ n1_ n2_ n3_ n4_ n5_ n6_; (try clear hb); (try clear hb2); (try clear hk); (try clear hi); obtain ⟨hcz45_0, hcz45_1, hcz45_2, hcz45_3, hfz45_0, hfz45_1, hfz45_2, hfz45_3⟩ := YA BK289.out; have hnb46 := NB242_0.out; have hnc46 := NB0_242.out; obtain ⟨hcz47_0, hcz47_1, hcz47_2, hcz47_3, hfz47_0, hfz47_1, hfz47_2, hfz47_3⟩ := YA BK242.out))
     refine bodyPost_ret (results_cell_row rfl _ _ gb242 37 #[.int .i64 t277, .string t278, .slice Ao42 t279.length co42, .slice Ao43 t282.length co43] (0, 0) _ rfl Z25 Tryd.underlying37 rfl Z6) rfl ?_
     exact ⟨_, _, Z2, by (with_reducible repeat (first | apply Kd.R_alloc | apply Kd.R_drewN | apply Kd.R_drew)); exact Kd.R_mono (Kd.R_far (p := ⟨gb242, 3, none⟩) (Kd.R_far (p := ⟨gb242, 2, none⟩) (Kd.R_far (p := ⟨gb242, 1, none⟩) (Kd.R_far (p := ⟨gb242, 0, none⟩) (Kd.R_types HO281.out BK242.out (by decide)) (fun _ hk => hk.2) (.int .i64 t277)) (fun _ hk => hk.2) (.string t278)) (fun _ hk => hk.2) (.slice Ao42 t279.length co42)) (fun _ hk => hk.2) (.slice Ao43 t282.length co43)) (fun _ hk => hk.1.1), by (with_reducible repeat (first | apply Kd.N_alloc | apply Kd.N_drewN | apply Kd.N_drew)); exact Kd.N_mono (Kd.N_far (p := ⟨gb242, 3, none⟩) (Kd.N_far (p := ⟨gb242, 2, none⟩) (Kd.N_far (p := ⟨gb242, 1, none⟩) (Kd.N_far (p := ⟨gb242, 0, none⟩) (Kd.N_mono HO284.out (fun k_ hk => (⟨hk, hk.1.2.2.1⟩ : _ ∧ k_ ≠ gb242))) (fun _ hk => hk.2) (.int .i64 t277)) (fun _ hk => hk.2) (.string t278)) (fun _ hk => hk.2) (.slice Ao42 t279.length co42)) (fun _ hk => hk.2) (.slice Ao43 t282.length co43)) (fun _ hk => ⟨hk.1.1.1, hk.1.1.2.1⟩), QI75_0, QB, QK⟩
   ·rw [if_neg c21] at H
    have c21b0 : (t243 == 40) = false := beq_eq_false_iff_ne.mpr c21
    have c21b1 : (t243 != 40) = true := bne_iff_ne.mpr c21
    replace H := Option.bind_eq_some_iff.mp H
    obtain ⟨⟨t294, t295, t296, t299, t302, t303, t304, t305⟩, A480, H⟩ := H
    replace H : (some (t294, t295, t296, t299, t302, t303, t304, t305)) = some (r1, r2, r3, r4, r5, r6, r7, r8) := H
    have A48 := Y0.mk A480
    clear A480
    simp only [Option.some.injEq, Prod.mk.injEq] at H
    obtain ⟨rfl, rfl, rfl, rfl, rfl, rfl, rfl, rfl⟩ := H
    go_enter Tryd.func134, Tryd.ntmps134
    go_wp2_with (first | ((with_reducible refine YF (N := 4) rfl ?_); refine YE ?hg (N := 4) ?hd (cs := #[.int .i64 0, .string (⟨#[]⟩ : ByteArray), .slice none 0 0, .slice none 0 0]) (t := 37) ?hr ?_; (case hd => rfl); (case hg => rfl); (case hr => exact Za); intro gb242 hg w49 hbox hb; have n_ := Y4q (Yw.below QI75_0 hb) (Y1.trans QK (Y1.of_below hb g none) (.inl rfl)) (Yb QB hb) (hbox) ((by rw [hg]; exact (Y8 (w := w) (g := g) (row := none) QK) : w.heap.size ≤ gb242)) ((Nat.le_trans HW0.out (by rw [hg]; exact (Y8 (w := w) (g := g) (row := none) QK) : w.heap.size ≤ gb242) : w0.heap.size ≤ gb242)) ((by rw [hg]; exact Nat.ne_of_lt (Yw.lt (show Yw w0 _ g s0_0 s0_1 s0_2 s0_3 from QI75_0)) : g ≠ gb242)) ((by rw [hg]; exact Nat.ne_of_gt (Yw.lt (show Yw w0 _ g s0_0 s0_1 s0_2 s0_3 from QI75_0)) : gb242 ≠ g)); clear HI0 HK HB; obtain ⟨HI0, HK, HB, BK242, GW242, GE242, NB0_242, NB242_0⟩ := n_; clear hb hbox hg) | ((with_reducible refine Yn (f := 53) rfl ?_); refine YO (some 7) rfl rfl Tryd.func53 Z6 rfl #[.pointer (some ⟨g, 0, none⟩)] rfl Z0 ?_; (with_reducible refine (Yj.calls k g s0_0 s0_1 s0_2 s0_3 t243 t244 t245 t246 t247 w0 _ ?side1 ?side2 A3.out).mono ?_); (case side1 => exact Z1e); (case side2 => exact QB); rintro e w50 ⟨rfl, hi, hb, hk⟩; refine ⟨_, rfl, ?_⟩; have n_ := Y31 (Y1.blk hk (g' := gb242) (o := .cells #[.int .i64 0, .string (⟨#[]⟩ : ByteArray), .slice none 0 0, .slice none 0 0] 37 (0, 0)) QQ NB242_0.out (by simp)) (Y1.trans QK hk (.inl rfl)) (hb) (hi); clear BK242 HK HB HI0; obtain ⟨BK242, HK, HB, HI0⟩ := n_; (try clear hb); (try clear hb2); (try clear hk); (try clear hi); obtain ⟨HGz51, hgz51⟩ := HI0.out; have hcz51_0 := YZ HGz51; have hcz51_1 := Y10 HGz51; have hcz51_2 := Y11 HGz51; have hcz51_3 := Y12 HGz51; have hfz51_0 := Y7 HGz51 0; have hfz51_1 := Y7 HGz51 1; have hfz51_2 := Y7 HGz51 2; have hfz51_3 := Y7 HGz51 3; clear HGz51 hgz51) | ((with_reducible refine Yn (f := 54) rfl ?_); refine YO (some 53) rfl rfl Tryd.func54 Z6 rfl #[.pointer (some ⟨g, 0, none⟩), .int .i64 t245, .int .i64 2] rfl Z0 ?_; (with_reducible refine (Ys.calls g t244 t245 t246 t247 t245 2 t294 t295 t296 t299 t302 t303 t304 t305 w0 _ ?side1 ?side2 A48.out).mono ?_); (case side1 => exact Z1e); (case side2 => exact QB); rintro e w52 ⟨v297, v300, rfl, ho0, ho1, hi, hb, hk⟩; refine ⟨_, rfl, ?_⟩; have n0_ := Y0.mk (Y1.blk hk (g' := gb242) (o := .cells #[.int .i64 0, .string (⟨#[]⟩ : ByteArray), .slice none 0 0, .slice none 0 0] 37 (0, 0)) QQ NB242_0.out (by simp)); have n1_ := Y0.mk (Kd.R_lower (Kd.R_newM (M := fun k_ => (w.heap.size ≤ k_)) (Kd.R_mono (ok' := fun k_ => True) ho0 (fun _ hk_ => trivial)) (Y8 (w := w) (g := g) (row := none) QK) (fun k_ h_ => h_)) (Y8 (w := w) (g := g) (row := none) QK)); have n2_ := Y0.mk (Kd.N_lower (Kd.N_mono (ok' := fun k_ => (w.heap.size ≤ k_) ∧ some k_ ≠ (v297 : Value).ownBlock ∧ k_ ≠ gb242 ∧ k_ ≠ g) ho1 (fun k_ hk_ => ⟨(Nat.le_trans (Y8 (w := w) (g := g) (row := none) QK) hk_.1), hk_.2, (Kd.freshB (g := gb242) (o := .cells #[.int .i64 0, .string (⟨#[]⟩ : ByteArray), .slice none 0 0, .slice none 0 0] 37 (0, 0)) QQ k_ hk_.1), (Yw.fresh QI75_0 k_ hk_.1)⟩)) (Y8 (w := w) (g := g) (row := none) QK)); have n3_ := Y0.mk (Y1.trans QK hk (.inl rfl)); have n4_ := Y0.mk (hb); have n5_ := Y0.mk (hi); clear BK242 HK HB HI0; have BK242 := n0_; have HO298 := n1_; have HO301 := n2_; have HK := n3_; have HB := n4_; have HI0 := n5_; clear n0_ n1_ n2_ n3_ n4_ n5_; (try clear hb); (try clear hb2); (try clear hk); (try clear hi); (try clear ho0); (try clear ho1); have hnb53 := NB242_0.out; have hnc53 := NB0_242.out; obtain ⟨hcz54_0, hcz54_1, hcz54_2, hcz54_3, hfz54_0, hfz54_1, hfz54_2, hfz54_3⟩ := YA BK242.out; obtain ⟨Ao55, co55, eo55⟩ := Kd.R_slice HO298.out; subst eo55; obtain ⟨Ao56, co56, eo56⟩ := Kd.N_slice HO301.out; subst eo56))
    refine bodyPost_ret (results_cell_row rfl _ _ gb242 37 #[.int .i64 t294, .string t295, .slice Ao55 t296.length co55, .slice Ao56 t299.length co56] (0, 0) _ rfl (by (with_reducible repeat (first | refine Yg ?_ _ | refine Ya ?_ | refine Ye ?_ _)); exact YD (cs := #[.int .i64 t294, .string t295, .slice Ao55 t296.length co55, .slice none 0 0]) (by (with_reducible repeat (first | refine Yg ?_ _ | refine Ya ?_ | refine Ye ?_ _)); exact YD (cs := #[.int .i64 t294, .string t295, .slice none 0 0, .slice none 0 0]) (by (with_reducible repeat (first | refine Yg ?_ _ | refine Ya ?_ | refine Ye ?_ _)); exact YD (cs := #[.int .i64 t294, .string (⟨#[]⟩ : ByteArray), .slice none 0 0, .slice none 0 0]) Z1 1 _ rfl) 2 _ rfl) 3 _ rfl) Tryd.underlying37 rfl Z6) rfl ?_
    exact ⟨_, _, Z2, by (with_reducible repeat (first | apply Kd.R_alloc | apply Kd.R_drewN | apply Kd.R_drew)); exact Kd.R_mono (Kd.R_far (p := ⟨gb242, 3, none⟩) (Kd.R_far (p := ⟨gb242, 2, none⟩) (Kd.R_far (p := ⟨gb242, 1, none⟩) (Kd.R_far (p := ⟨gb242, 0, none⟩) (Kd.R_types HO298.out BK242.out (by decide)) (fun _ hk => hk.2) (.int .i64 t294)) (fun _ hk => hk.2) (.string t295)) (fun _ hk => hk.2) (.slice Ao55 t296.length co55)) (fun _ hk => hk.2) (.slice Ao56 t299.length co56)) (fun _ hk => hk.1.1), by (with_reducible repeat (first | apply Kd.N_alloc | apply Kd.N_drewN | apply Kd.N_drew)); exact Kd.N_mono (Kd.N_far (p := ⟨gb242, 3, none⟩) (Kd.N_far (p := ⟨gb242, 2, none⟩) (Kd.N_far (p := ⟨gb242, 1, none⟩) (Kd.N_far (p := ⟨gb242, 0, none⟩) (Kd.N_mono HO301.out (fun k_ hk => (⟨hk, hk.2.2.1⟩ : _ ∧ k_ ≠ gb242))) (fun _ hk => hk.2) (.int .i64 t294)) (fun _ hk => hk.2) (.string t295)) (fun _ hk => hk.2) (.slice Ao55 t296.length co55)) (fun _ hk => hk.2) (.slice Ao56 t299.length co56)) (fun _ hk => ⟨hk.1.1, hk.1.2.1⟩), QI75_0, QB, QK⟩
theorem Yq.joint : ∀ k, Yq.Spec k ∧ Yz.Spec k ∧ Yf.Spec k ∧ YG.Spec k ∧ YN.Spec k := by
 intro k
 induction k using Nat.strongRecOn with
 | _ k ih => exact ⟨Yq.step k ih, Yz.step k ih, Yf.step k ih, YG.step k ih, YN.step k ih⟩
theorem Yq.calls (k : Nat) : Yq.Spec k := (Yq.joint k).1
def YJ.j0 : Nat → ByteArray → Bool → ByteArray → Int → Int → Int → Int → ByteArray → List ByteArray → List (S37) → Option (Int × ByteArray × List ByteArray × (List (S37)) × Int × Int)
 | 0, _, _, _, _, _, _, _, _, _, _ => none
 | k + 1, x0, x34, x103000, x103001, x103002, x103003, x116000, x116001, x116002, x116003 => if x34 = true then ((Ys.f x103000 x103001 x103002 x103003 x103001 2).bind fun bt121 => (if bt121.2.2.2.2.2.2.1 = 0 then (some (x116000, x116001, x116002, x116003, (x0.size : Int), 0)) else (some (0, (⟨#[]⟩ : ByteArray), ([] : List ByteArray), ([] : List (S37)), bt121.2.2.2.2.2.2.2, bt121.2.2.2.2.2.2.1)))) else (if x103002 = 0 then (some (x116000, x116001, x116002, x116003, (x0.size : Int), 0)) else (some (0, (⟨#[]⟩ : ByteArray), ([] : List ByteArray), ([] : List (S37)), x103003, x103002)))
def YJ.f (k : Nat) (a0 : ByteArray) : Option (Int × ByteArray × List ByteArray × (List (S37)) × Int × Int) := if (a0.size : Int) > 600 then (some (0, (⟨#[]⟩ : ByteArray), ([] : List ByteArray), ([] : List (S37)), 0, 4)) else ((Yq.f k a0 0 0 0 0).bind fun bt103 => ((Yj.f k bt103.2.2.2.2.1 bt103.2.2.2.2.2.1 bt103.2.2.2.2.2.2.1 bt103.2.2.2.2.2.2.2).bind fun bt116 => (if bt116.1 = 0 then (if bt116.2.2.2.1 = 0 then (YJ.j0 k a0 (decide (bt116.2.2.1 < (a0.size : Int))) bt116.2.1 bt116.2.2.1 bt116.2.2.2.1 bt116.2.2.2.2 bt103.1 bt103.2.1 bt103.2.2.1 bt103.2.2.2.1) else (YJ.j0 k a0 false bt116.2.1 bt116.2.2.1 bt116.2.2.2.1 bt116.2.2.2.2 bt103.1 bt103.2.1 bt103.2.2.1 bt103.2.2.2.1)) else (YJ.j0 k a0 true bt116.2.1 bt116.2.2.1 bt116.2.2.2.1 bt116.2.2.2.2 bt103.1 bt103.2.1 bt103.2.2.1 bt103.2.2.2.1))))
theorem YJ.mono_l : ∀ k, (∀ y0 y1 y2 y3 y4 y5 y6 y7 y8 y9, LeO (YJ.j0 k y0 y1 y2 y3 y4 y5 y6 y7 y8 y9) (YJ.j0 (k + 1) y0 y1 y2 y3 y4 y5 y6 y7 y8 y9))
 | 0 => fun _ _ _ _ _ _ _ _ _ _ r h => by simp [YJ.j0] at h
 | k + 1 => by
  have ih0 := YJ.mono_l k
  ·intro y0 y1 y2 y3 y4 y5 y6 y7 y8 y9
   unfold YJ.j0
   exact QM
theorem YJ.mono : ∀ a0 k, LeO (YJ.f k a0) (YJ.f (k + 1) a0) := by
 intro a0 k
 have ih0 := YJ.mono_l k
 unfold YJ.f
 exact QM
def YJ.T8 : Bool × List (List Nat × List Nat) := (true, [([], []), ([], []), ([1], [1]), ([2], [2]), ([3], [3]), ([], []), ([5], [5]), ([6], [6]), ([7], [7]), ([0, 0], [0]), ([4, 9, 0, 1, 2, 3, 4, 9], [4]), ([8, 10, 0, 1, 2, 3, 4, 5, 6, 7, 8, 9, 10], [8])])
def YJ.B8 : List Nat := [0, 0, 2, 6, 14, 0, 32, 96, 224, 1, 543, 2047]
theorem YJ.tab8 : Y3G .any (Y3Z Tryd.f25 8) = YJ.T8 := by kernel_rfl
theorem YJ.bits8 : Y22 YJ.T8.2 YJ.B8 = true := by kernel_rfl
set_option maxHeartbeats 8000000 in
set_option maxRecDepth 100000 in
theorem YJ.calls (k : Nat) (a0 : ByteArray) (r1 : Int) (r2 : ByteArray) (r3 : List ByteArray) (r4 : List (S37)) (r5 : Int) (r6 : Int) (w : World) (hT : Tabs w) (h : YJ.f k a0 = some (r1, r2, r3, r4, r5, r6)) :
  Calls Tryd.prog 25 #[.string a0] w fun e w' => ∃ v2_ v3_ : Value, e = .returned (.tuple #[.agg #[.int .i64 r1, .string r2, v2_, v3_], .int .i64 r5, .int .i64 r6]) ∧ Kd.R Kd.string 9 w' w.heap.size (fun k_ => (w.heap.size ≤ k_)) v2_ r3 ∧ Kd.N k37 37 w' w.heap.size (fun k_ => (w.heap.size ≤ k_) ∧ some k_ ≠ (v2_ : Value).ownBlock) v3_ r4 ∧ Below w.heap.size w w' := by
 have HT := Y0.mk hT
 clear hT
 have hu37 := Tryd.underlying37
 have hu75 := Tryd.underlying75
 have HB := Y0.mk (Below.refl w.heap.size w)
 have H : (if (a0.size : Int) > 600 then (some (0, (⟨#[]⟩ : ByteArray), ([] : List ByteArray), ([] : List (S37)), 0, 4)) else ((Yq.f k a0 0 0 0 0).bind fun bt103 => ((Yj.f k bt103.2.2.2.2.1 bt103.2.2.2.2.2.1 bt103.2.2.2.2.2.2.1 bt103.2.2.2.2.2.2.2).bind fun bt116 => (if bt116.1 = 0 then (if bt116.2.2.2.1 = 0 then (YJ.j0 k a0 (decide (bt116.2.2.1 < (a0.size : Int))) bt116.2.1 bt116.2.2.1 bt116.2.2.2.1 bt116.2.2.2.2 bt103.1 bt103.2.1 bt103.2.2.1 bt103.2.2.2.1) else (YJ.j0 k a0 false bt116.2.1 bt116.2.2.1 bt116.2.2.2.1 bt116.2.2.2.2 bt103.1 bt103.2.1 bt103.2.2.1 bt103.2.2.2.1)) else (YJ.j0 k a0 true bt116.2.1 bt116.2.2.1 bt116.2.2.2.1 bt116.2.2.2.2 bt103.1 bt103.2.1 bt103.2.2.1 bt103.2.2.2.1))))) = some (r1, r2, r3, r4, r5, r6) := h
 clear h
 by_cases c2 : (a0.size : Int) > 600
 ·rw [if_pos c2] at H
  have c2b0 : decide (600 < (a0.size : Int)) = true := decide_eq_true c2
  have c2b1 : decide (600 < a0.size) = true := decide_eq_true (by omega)
  clear c2
  simp only [Option.some.injEq, Prod.mk.injEq] at H
  obtain ⟨rfl, rfl, rfl, rfl, rfl, rfl⟩ := H
  go_enter Tryd.func25, Tryd.ntmps25
  go_wp2_with (first | ((with_reducible refine YF (N := 2) rfl ?_); (try (refine YX (by rfl) ?_; dsimp only)); refine YE ?hg (N := 2) ?hd (cs := #[.int .i64 0, .string (⟨#[]⟩ : ByteArray), .slice none 0 0, .slice none 0 0]) (t := 37) ?hr ?_; (case hd => rfl); (case hg => rfl); (case hr => exact Za); intro gb101 hg w3 hbox hb; have n_ := Y31 (Yb QB hb) (hbox) ((by rw [hg]; exact (Ym QB) : w.heap.size ≤ gb101)) ((by rw [hg]; exact (Ym QB) : w.heap.size ≤ gb101)); clear HB; obtain ⟨HB, BK101, GW101, GE101⟩ := n_; clear hb hbox hg; obtain ⟨hcz4_0, hcz4_1, hcz4_2, hcz4_3, hfz4_0, hfz4_1, hfz4_2, hfz4_3⟩ := YA BK101.out))
  refine bodyPost_ret (Y1O rfl _ _ gb101 37 #[.int .i64 0, .string (⟨#[]⟩ : ByteArray), .slice none 0 0, .slice none 0 0] (0, 0) _ rfl Z1W Tryd.underlying37 rfl Z6) rfl ?_
  exact Z2k
 ·rw [if_neg c2] at H
  have c2b0 : decide (600 < (a0.size : Int)) = false := decide_eq_false c2
  have c2b1 : decide (600 < a0.size) = false := decide_eq_false (by omega)
  clear c2
  replace H := Option.bind_eq_some_iff.mp H
  obtain ⟨⟨t103, t104, t105, t108, t111, t112, t113, t114⟩, A50, H⟩ := H
  replace H : ((Yj.f k t111 t112 t113 t114).bind fun bt116 => (if bt116.1 = 0 then (if bt116.2.2.2.1 = 0 then (YJ.j0 k a0 (decide (bt116.2.2.1 < (a0.size : Int))) bt116.2.1 bt116.2.2.1 bt116.2.2.2.1 bt116.2.2.2.2 t103 t104 t105 t108) else (YJ.j0 k a0 false bt116.2.1 bt116.2.2.1 bt116.2.2.2.1 bt116.2.2.2.2 t103 t104 t105 t108)) else (YJ.j0 k a0 true bt116.2.1 bt116.2.2.1 bt116.2.2.2.1 bt116.2.2.2.2 t103 t104 t105 t108))) = some (r1, r2, r3, r4, r5, r6) := H
  have A5 := Y0.mk A50
  clear A50
  have HC6 := Y0.mk H
  clear H
  go_enter Tryd.func25, Tryd.ntmps25
  go_upto_region 5 with (first | ((with_reducible refine YF (N := 2) rfl ?_); (try (refine YX (by rfl) ?_; dsimp only)); refine YE ?hg (N := 2) ?hd (cs := #[.int .i64 0, .string (⟨#[]⟩ : ByteArray), .slice none 0 0, .slice none 0 0]) (t := 37) ?hr ?_; (case hd => rfl); (case hg => rfl); (case hr => exact Za); intro gb101 hg w7 hbox hb; have n_ := Y31 (Yb QB hb) (hbox) ((by rw [hg]; exact (Ym QB) : w.heap.size ≤ gb101)) ((by rw [hg]; exact (Ym QB) : w.heap.size ≤ gb101)); clear HB; obtain ⟨HB, BK101, GW101, GE101⟩ := n_; clear hb hbox hg) | ((with_reducible refine YF (N := 13) rfl ?_); (try (refine YX (by rfl) ?_; dsimp only)); refine YE ?hg (N := 13) ?hd (cs := #[.string a0, .int .i64 0, .int .i64 0, .int .i64 0]) (t := 75) ?hr ?_; (case hd => rfl); (case hg => rfl); (case hr => exact Za); intro gb102 hg w8 hbox hb; have n_ := put7 (Yu (g := gb101) (o := .cells #[.int .i64 0, .string (⟨#[]⟩ : ByteArray), .slice none 0 0, .slice none 0 0] 37 (0, 0)) QQ hb) (Yb QB hb) ((by rw [hg]; exact (Ym QB) : w.heap.size ≤ gb102)) ((by rw [hg]; exact (Ym QB) : w.heap.size ≤ gb102)) ((by rw [hg]; exact Nat.ne_of_lt (Y15 (g := gb101) (o := .cells #[.int .i64 0, .string (⟨#[]⟩ : ByteArray), .slice none 0 0, .slice none 0 0] 37 (0, 0)) QQ) : gb101 ≠ gb102)) ((by rw [hg]; exact Nat.ne_of_gt (Y15 (g := gb101) (o := .cells #[.int .i64 0, .string (⟨#[]⟩ : ByteArray), .slice none 0 0, .slice none 0 0] 37 (0, 0)) QQ) : gb102 ≠ gb101)) ((⟨hbox, (by rw [hg]; exact (Ym QB))⟩ : Yw w w8 gb102 a0 0 0 0)); clear BK101 HB; obtain ⟨BK101, HB, GW102, GE102, NB101_102, NB102_101, HI102⟩ := n_; clear hb hbox hg) | ((with_reducible refine Yn (f := 52) rfl ?_); refine YO (some 15) rfl rfl Tryd.func52 Z6 rfl #[.pointer (some ⟨gb102, 0, none⟩), .int .i64 0] rfl Z0 ?_; (with_reducible refine (Yq.calls k gb102 a0 0 0 0 0 t103 t104 t105 t108 t111 t112 t113 t114 w _ ?side1 ?side2 ?side3 A5.out).mono ?_); (case side1 => exact QI75_102); (case side2 => exact QB); (case side3 => exact Z1O); rintro e w9 ⟨v106, v109, rfl, ho0, ho1, hi, hb, hk⟩; refine ⟨_, rfl, ?_⟩; have n0_ := Y0.mk (Y1.blk hk (g' := gb101) (o := .cells #[.int .i64 0, .string (⟨#[]⟩ : ByteArray), .slice none 0 0, .slice none 0 0] 37 (0, 0)) QQ NB101_102.out (by simp)); have n1_ := Y0.mk (Kd.R_lower (Kd.R_newM (M := fun k_ => (w.heap.size ≤ k_)) (Kd.R_mono (ok' := fun k_ => True) ho0 (fun _ hk_ => trivial)) (Ym QB) (fun k_ h_ => h_)) (Ym QB)); have n2_ := Y0.mk (Kd.N_lower (Kd.N_mono (ok' := fun k_ => (w.heap.size ≤ k_) ∧ some k_ ≠ (v106 : Value).ownBlock ∧ k_ ≠ gb101 ∧ k_ ≠ gb102) ho1 (fun k_ hk_ => ⟨(Nat.le_trans (Ym QB) hk_.1), hk_.2, (Kd.freshB (g := gb101) (o := .cells #[.int .i64 0, .string (⟨#[]⟩ : ByteArray), .slice none 0 0, .slice none 0 0] 37 (0, 0)) QQ k_ hk_.1), (Yw.fresh QI75_102 k_ hk_.1)⟩)) (Ym QB)); have n3_ := Y0.mk (hb); have n4_ := Y0.mk (hi); clear BK101 HB HI102; have BK101 := n0_; have HO107 := n1_; have HO110 := n2_; have HB := n3_; have HI102 := n4_; clear n0_ n1_ n2_ n3_ n4_; (try clear hb); (try clear hb2); (try clear hk); (try clear hi); (try clear ho0); (try clear ho1)) | ((with_reducible refine YF (N := 6) rfl ?_); (try (refine YX (by rfl) ?_; dsimp only)); refine YE ?hg (N := 6) ?hd (cs := #[.int .i64 0, .string (⟨#[]⟩ : ByteArray), .slice none 0 0, .slice none 0 0]) (t := 37) ?hr ?_; (case hd => rfl); (case hg => rfl); (case hr => exact Za); intro gb115 hg w10 hbox hb; have n0_ := Y0.mk (Kd.R_below Z1K hb); have n1_ := Y0.mk (Kd.N_below (Kd.N_elderB Z1H gb115 (Nat.le_of_eq hg.symm)) hb); have n2_ := Y0.mk (Yu (g := gb101) (o := .cells #[.int .i64 0, .string (⟨#[]⟩ : ByteArray), .slice none 0 0, .slice none 0 0] 37 (0, 0)) QQ hb); have n3_ := Y0.mk (Yw.below QI75_102 hb); have n4_ := Y0.mk (Yb QB hb); have n5_ := Y0.mk (hbox); have n6_ := Y0.mk ((by rw [hg]; exact (Ym QB) : w.heap.size ≤ gb115)); have n7_ := Y0.mk ((by rw [hg]; exact (Ym QB) : w.heap.size ≤ gb115)); have n8_ := Y0.mk ((by rw [hg]; exact Nat.ne_of_lt (Y15 (g := gb101) (o := .cells #[.int .i64 0, .string (⟨#[]⟩ : ByteArray), .slice none 0 0, .slice none 0 0] 37 (0, 0)) QQ) : gb101 ≠ gb115)); have n9_ := Y0.mk ((by rw [hg]; exact Nat.ne_of_gt (Y15 (g := gb101) (o := .cells #[.int .i64 0, .string (⟨#[]⟩ : ByteArray), .slice none 0 0, .slice none 0 0] 37 (0, 0)) QQ) : gb115 ≠ gb101)); have n10_ := Y0.mk ((by rw [hg]; exact Nat.ne_of_lt (Yw.lt (show Yw w _ gb102 t111 t112 t113 t114 from QI75_102)) : gb102 ≠ gb115)); have n11_ := Y0.mk ((by rw [hg]; exact Nat.ne_of_gt (Yw.lt (show Yw w _ gb102 t111 t112 t113 t114 from QI75_102)) : gb115 ≠ gb102)); clear HO107 HO110 BK101 HI102 HB; have HO107 := n0_; have HO110 := n1_; have BK101 := n2_; have HI102 := n3_; have HB := n4_; have BK115 := n5_; have GW115 := n6_; have GE115 := n7_; have NB101_115 := n8_; have NB115_101 := n9_; have NB102_115 := n10_; have NB115_102 := n11_; clear n0_ n1_ n2_ n3_ n4_ n5_ n6_ n7_ n8_ n9_ n10_ n11_ hb hbox hg; have hnb11 := NB115_101.out; have hnc11 := NB101_115.out; have hnb12 := NB115_102.out; have hnc12 := NB102_115.out; obtain ⟨hcz13_0, hcz13_1, hcz13_2, hcz13_3, hfz13_0, hfz13_1, hfz13_2, hfz13_3⟩ := YA BK115.out; obtain ⟨Ao14, co14, eo14⟩ := Kd.R_slice HO107.out; subst eo14; obtain ⟨Ao15, co15, eo15⟩ := Kd.N_slice HO110.out; subst eo15))
  (try simp only [Act.put, List.setIfInBounds_toArray, List.set_cons_zero, List.set_cons_succ])
  go_cut [34] (fun v34 wc => ∃ (kq : Nat) (x34_5 : Bool) (x103000_5 : ByteArray) (x103001_5 : Int) (x103002_5 : Int) (x103003_5 : Int), v34 = .bool x34_5 ∧ Y0 (YJ.j0 kq a0 x34_5 x103000_5 x103001_5 x103002_5 x103003_5 t103 t104 t105 t108 = some (r1, r2, r3, r4, r5, r6)) ∧ Y0 (kq ≤ k) ∧ Y0 (Kd.R Kd.string 9 wc w.heap.size (fun k_ => (w.heap.size ≤ k_)) (.slice Ao14 t105.length co14) t105) ∧ Y0 (Kd.N k37 37 wc w.heap.size (fun k_ => (w.heap.size ≤ k_) ∧ some k_ ≠ ((.slice Ao14 t105.length co14) : Value).ownBlock ∧ k_ ≠ gb101 ∧ k_ ≠ gb115 ∧ k_ ≠ gb102) (.slice Ao15 t108.length co15) t108) ∧ Y0 (wc.heap[gb101]? = some (.cells #[.int .i64 0, .string (⟨#[]⟩ : ByteArray), (.slice none 0 0), (.slice none 0 0)] 37 (0, 0))) ∧ Y0 (wc.heap[gb115]? = some (.cells #[.int .i64 t103, .string t104, (.slice Ao14 t105.length co14), (.slice Ao15 t108.length co15)] 37 (0, 0))) ∧ Y0 (Yw w wc gb102 x103000_5 x103001_5 x103002_5 x103003_5) ∧ Y0 (Below w.heap.size w wc))
  case first =>
   have H := HC6.out
   clear HC6
   replace H := Option.bind_eq_some_iff.mp H
   obtain ⟨⟨t116, t117, t118, t119, t120⟩, A160, H⟩ := H
   replace H : (if t116 = 0 then (if t119 = 0 then (YJ.j0 k a0 (decide (t118 < (a0.size : Int))) t117 t118 t119 t120 t103 t104 t105 t108) else (YJ.j0 k a0 false t117 t118 t119 t120 t103 t104 t105 t108)) else (YJ.j0 k a0 true t117 t118 t119 t120 t103 t104 t105 t108)) = some (r1, r2, r3, r4, r5, r6) := H
   have A16 := Y0.mk A160
   clear A160
   by_cases c17 : t116 = 0
   ·rw [if_pos c17] at H
    have c17b0 : (t116 == 0) = true := beq_iff_eq.mpr c17
    have c17b1 : (t116 != 0) = false := bne_eq_false_iff_eq.mpr c17
    clear c17
    (first | rw [c17b0] | (simp only [Y16, Y17]; rw [c17b0]) | skip)
    by_cases c18 : t119 = 0
    ·rw [if_pos c18] at H
     have c18b0 : (t119 == 0) = true := beq_iff_eq.mpr c18
     have c18b1 : (t119 != 0) = false := bne_eq_false_iff_eq.mpr c18
     clear c18
     have H' := Y0.mk H
     clear H
     go_wp2_with (first | ((with_reducible refine Yn (f := 53) rfl ?_); refine YO (some 17) rfl rfl Tryd.func53 Z6 rfl #[.pointer (some ⟨gb102, 0, none⟩)] rfl Z0 ?_; (with_reducible refine (Yj.calls k gb102 t111 t112 t113 t114 t116 t117 t118 t119 t120 w _ ?side1 ?side2 A16.out).mono ?_); (case side1 => exact QI75_102); (case side2 => exact QB); rintro e w19 ⟨rfl, hi, hb, hk⟩; refine ⟨_, rfl, ?_⟩; have n0_ := Y0.mk (Y1.blk hk (g' := gb101) (o := .cells #[.int .i64 0, .string (⟨#[]⟩ : ByteArray), .slice none 0 0, .slice none 0 0] 37 (0, 0)) Zc NB101_102.out (by simp)); have n1_ := Y0.mk (Kd.R_mono (Kd.R_keep (Yw.apart (show Yw w _ gb102 t111 t112 t113 t114 from QI75_102) Zx (by decide)) hk (fun _ h => h.2)) (fun _ h => h.1)); have n2_ := Y0.mk (Kd.N_mono (Kd.N_keep (Kd.N_mono (ok := fun k_ => ((((w.heap.size ≤ k_)) ∧ (some k_ ≠ (.slice Ao14 t105.length co14 : Value).ownBlock ∧ (k_ ≠ gb101 ∧ k_ ≠ gb102))) ∧ k_ ≠ gb115)) Zs (fun k_ hk_ => (⟨hk_, hk_.1.2.2.2⟩ : _ ∧ k_ ≠ gb102))) hk (fun _ h => h.2)) (fun _ h => h.1)); have n3_ := Y0.mk (Y1.blk hk (g' := gb115) (o := .cells #[.int .i64 t103, .string t104, .slice Ao14 t105.length co14, .slice Ao15 t108.length co15] 37 (0, 0)) Z2n NB115_102.out (by simp)); have n4_ := Y0.mk (hb); have n5_ := Y0.mk (hi); clear BK101 HO107 HO110 BK115 HB HI102; have BK101 := n0_; have HO107 := n1_; have HO110 := n2_; have BK115 := n3_; have HB := n4_; have HI102 := n5_; clear n0_ n1_ n2_ n3_ n4_ n5_; (try clear hb); (try clear hb2); (try clear hk); (try clear hi); obtain ⟨HGz20, hgz20⟩ := HI102.out; have hcz20_0 := YZ HGz20; have hcz20_1 := Y10 HGz20; have hcz20_2 := Y11 HGz20; have hcz20_3 := Y12 HGz20; have hfz20_0 := Y7 HGz20 0; have hfz20_1 := Y7 HGz20 1; have hfz20_2 := Y7 HGz20 2; have hfz20_3 := Y7 HGz20 3; clear HGz20 hgz20))
     go_meet
     case rel => exact ⟨_, (decide (t118 < (a0.size : Int))), (t117), (t118), (t119), (t120), Z7, H', ⟨Zr⟩, ⟨ZR⟩, ⟨ZE⟩, ⟨Z4⟩, ⟨Z14⟩, ⟨QI75_102⟩, ⟨QB⟩⟩
    ·rw [if_neg c18] at H
     have c18b0 : (t119 == 0) = false := beq_eq_false_iff_ne.mpr c18
     have c18b1 : (t119 != 0) = true := bne_iff_ne.mpr c18
     have H' := Y0.mk H
     clear H
     go_wp2_with (first | ((with_reducible refine Yn (f := 53) rfl ?_); refine YO (some 17) rfl rfl Tryd.func53 Z6 rfl #[.pointer (some ⟨gb102, 0, none⟩)] rfl Z0 ?_; (with_reducible refine (Yj.calls k gb102 t111 t112 t113 t114 t116 t117 t118 t119 t120 w _ ?side1 ?side2 A16.out).mono ?_); (case side1 => exact QI75_102); (case side2 => exact QB); rintro e w21 ⟨rfl, hi, hb, hk⟩; refine ⟨_, rfl, ?_⟩; have n0_ := Y0.mk (Y1.blk hk (g' := gb101) (o := .cells #[.int .i64 0, .string (⟨#[]⟩ : ByteArray), .slice none 0 0, .slice none 0 0] 37 (0, 0)) Zc NB101_102.out (by simp)); have n1_ := Y0.mk (Kd.R_mono (Kd.R_keep (Yw.apart (show Yw w _ gb102 t111 t112 t113 t114 from QI75_102) Zx (by decide)) hk (fun _ h => h.2)) (fun _ h => h.1)); have n2_ := Y0.mk (Kd.N_mono (Kd.N_keep (Kd.N_mono (ok := fun k_ => ((((w.heap.size ≤ k_)) ∧ (some k_ ≠ (.slice Ao14 t105.length co14 : Value).ownBlock ∧ (k_ ≠ gb101 ∧ k_ ≠ gb102))) ∧ k_ ≠ gb115)) Zs (fun k_ hk_ => (⟨hk_, hk_.1.2.2.2⟩ : _ ∧ k_ ≠ gb102))) hk (fun _ h => h.2)) (fun _ h => h.1)); have n3_ := Y0.mk (Y1.blk hk (g' := gb115) (o := .cells #[.int .i64 t103, .string t104, .slice Ao14 t105.length co14, .slice Ao15 t108.length co15] 37 (0, 0)) Z2n NB115_102.out (by simp)); have n4_ := Y0.mk (hb); have n5_ := Y0.mk (hi); clear BK101 HO107 HO110 BK115 HB HI102; have BK101 := n0_; have HO107 := n1_; have HO110 := n2_; have BK115 := n3_; have HB := n4_; have HI102 := n5_; clear n0_ n1_ n2_ n3_ n4_ n5_; (try clear hb); (try clear hb2); (try clear hk); (try clear hi); obtain ⟨HGz22, hgz22⟩ := HI102.out; have hcz22_0 := YZ HGz22; have hcz22_1 := Y10 HGz22; have hcz22_2 := Y11 HGz22; have hcz22_3 := Y12 HGz22; have hfz22_0 := Y7 HGz22 0; have hfz22_1 := Y7 HGz22 1; have hfz22_2 := Y7 HGz22 2; have hfz22_3 := Y7 HGz22 3; clear HGz22 hgz22))
     go_meet
     case rel => exact ⟨_, (false), (t117), (t118), (t119), (t120), Z7, H', ⟨Zr⟩, ⟨ZR⟩, ⟨ZE⟩, ⟨Z4⟩, ⟨Z14⟩, ⟨QI75_102⟩, ⟨QB⟩⟩
   ·rw [if_neg c17] at H
    have c17b0 : (t116 == 0) = false := beq_eq_false_iff_ne.mpr c17
    have c17b1 : (t116 != 0) = true := bne_iff_ne.mpr c17
    (first | rw [c17b0] | (simp only [Y16, Y17]; rw [c17b0]) | skip)
    have H' := Y0.mk H
    clear H
    go_wp2_with (first | ((with_reducible refine Yn (f := 53) rfl ?_); refine YO (some 17) rfl rfl Tryd.func53 Z6 rfl #[.pointer (some ⟨gb102, 0, none⟩)] rfl Z0 ?_; (with_reducible refine (Yj.calls k gb102 t111 t112 t113 t114 t116 t117 t118 t119 t120 w _ ?side1 ?side2 A16.out).mono ?_); (case side1 => exact QI75_102); (case side2 => exact QB); rintro e w23 ⟨rfl, hi, hb, hk⟩; refine ⟨_, rfl, ?_⟩; have n0_ := Y0.mk (Y1.blk hk (g' := gb101) (o := .cells #[.int .i64 0, .string (⟨#[]⟩ : ByteArray), .slice none 0 0, .slice none 0 0] 37 (0, 0)) Zc NB101_102.out (by simp)); have n1_ := Y0.mk (Kd.R_mono (Kd.R_keep (Yw.apart (show Yw w _ gb102 t111 t112 t113 t114 from QI75_102) Zx (by decide)) hk (fun _ h => h.2)) (fun _ h => h.1)); have n2_ := Y0.mk (Kd.N_mono (Kd.N_keep (Kd.N_mono (ok := fun k_ => ((((w.heap.size ≤ k_)) ∧ (some k_ ≠ (.slice Ao14 t105.length co14 : Value).ownBlock ∧ (k_ ≠ gb101 ∧ k_ ≠ gb102))) ∧ k_ ≠ gb115)) Zs (fun k_ hk_ => (⟨hk_, hk_.1.2.2.2⟩ : _ ∧ k_ ≠ gb102))) hk (fun _ h => h.2)) (fun _ h => h.1)); have n3_ := Y0.mk (Y1.blk hk (g' := gb115) (o := .cells #[.int .i64 t103, .string t104, .slice Ao14 t105.length co14, .slice Ao15 t108.length co15] 37 (0, 0)) Z2n NB115_102.out (by simp)); have n4_ := Y0.mk (hb); have n5_ := Y0.mk (hi); clear BK101 HO107 HO110 BK115 HB HI102; have BK101 := n0_; have HO107 := n1_; have HO110 := n2_; have BK115 := n3_; have HB := n4_; have HI102 := n5_; clear n0_ n1_ n2_ n3_ n4_ n5_; (try clear hb); (try clear hb2); (try clear hk); (try clear hi)))
    go_meet
    case rel => exact ⟨_, (true), (t117), (t118), (t119), (t120), Z7, H', ⟨Zr⟩, ⟨ZR⟩, ⟨ZE⟩, ⟨Z4⟩, ⟨Z14⟩, ⟨QI75_102⟩, ⟨QB⟩⟩
  case rest =>
   clear HC6
   try clear c1
   try clear c2
   try clear c2b0
   try clear c2b1
   try clear p2
   try clear c5
   try clear c11
   try clear c12
   try clear c17
   try clear c17b0
   try clear c17b1
   try clear c18
   try clear c18b0
   try clear c18b1
   try clear hcz13_0 hcz13_1 hcz13_2 hcz13_3
   try clear hcz20_0 hcz20_1 hcz20_2 hcz20_3
   try clear hcz22_0 hcz22_1 hcz22_2 hcz22_3
   try clear hcz4_0 hcz4_1 hcz4_2 hcz4_3
   try clear hfz13_0
   try clear hfz13_1
   try clear hfz13_2
   try clear hfz13_3
   try clear hfz20_0
   try clear hfz20_1
   try clear hfz20_2
   try clear hfz20_3
   try clear hfz22_0
   try clear hfz22_1
   try clear hfz22_2
   try clear hfz22_3
   try clear hfz4_0
   try clear hfz4_1
   try clear hfz4_2
   try clear hfz4_3
   obtain ⟨kq, x34_5, x103000_5, x103001_5, x103002_5, x103003_5, rfl, HA, HJ5, HO_116002, HO_116003, BK101, BK115, HI102, HB⟩ := hcut
   cases kq with
   | zero => exact absurd HA.out (by simp [YJ.j0])
   | succ kj5 =>
    have H := HA.out
    clear HA
    simp only [YJ.j0] at H
    by_cases c24 : x34_5 = true
    ·subst c24
     have H1 : ((Ys.f x103000_5 x103001_5 x103002_5 x103003_5 x103001_5 2).bind fun bt121 => (if bt121.2.2.2.2.2.2.1 = 0 then (some (t103, t104, t105, t108, (a0.size : Int), 0)) else (some (0, (⟨#[]⟩ : ByteArray), ([] : List ByteArray), ([] : List (S37)), bt121.2.2.2.2.2.2.2, bt121.2.2.2.2.2.2.1)))) = some (r1, r2, r3, r4, r5, r6) := by rw [if_pos rfl] at H; exact H
     clear H
     have H := H1
     clear H1
     replace H := Option.bind_eq_some_iff.mp H
     obtain ⟨⟨t121, t122, t123, t126, t129, t130, t131, t132⟩, A250, H⟩ := H
     replace H : (if t131 = 0 then (some (t103, t104, t105, t108, (a0.size : Int), 0)) else (some (0, (⟨#[]⟩ : ByteArray), ([] : List ByteArray), ([] : List (S37)), t132, t131))) = some (r1, r2, r3, r4, r5, r6) := H
     have A25 := Y0.mk A250
     clear A250
     by_cases c26 : t131 = 0
     ·rw [if_pos c26] at H
      have c26b0 : (t131 == 0) = true := beq_iff_eq.mpr c26
      have c26b1 : (t131 != 0) = false := bne_eq_false_iff_eq.mpr c26
      clear c26
      simp only [Option.some.injEq, Prod.mk.injEq] at H
      obtain ⟨rfl, rfl, rfl, rfl, rfl, rfl⟩ := H
      obtain ⟨hcz27_0, hcz27_1, hcz27_2, hcz27_3, hfz27_0, hfz27_1, hfz27_2, hfz27_3⟩ := YA HI102.out.1
      go_wp2_with (first | ((with_reducible refine Yn (f := 54) rfl ?_); refine YO (some 40) rfl rfl Tryd.func54 Z6 rfl #[.pointer (some ⟨gb102, 0, none⟩), .int .i64 x103001_5, .int .i64 2] rfl Z0 ?_; (with_reducible refine (Ys.calls gb102 x103000_5 x103001_5 x103002_5 x103003_5 x103001_5 2 t121 t122 t123 t126 t129 t130 t131 t132 w _ ?side1 ?side2 A25.out).mono ?_); (case side1 => exact QI75_102); (case side2 => exact QB); rintro e w28 ⟨v124, v127, rfl, ho0, ho1, hi, hb, hk⟩; refine ⟨_, rfl, ?_⟩; have n0_ := Y0.mk (Kd.R_mono (Kd.R_told (Kd.R_oldK (Yw.apart (show Yw w _ gb102 x103000_5 x103001_5 x103002_5 x103003_5 from QI75_102) Zb (by decide)) hk) (Kd.R_base ho0)) (fun _ h_ => h_.1)); have n1_ := Y0.mk (Kd.N_mono (Kd.N_told (Kd.N_told (Kd.N_oldK (Kd.N_mono (ok := fun k_ => (((w.heap.size ≤ k_)) ∧ (some k_ ≠ (.slice Ao14 t105.length co14 : Value).ownBlock ∧ (k_ ≠ gb101 ∧ (k_ ≠ gb115 ∧ k_ ≠ gb102))))) Ze (fun k_ hk_ => (⟨hk_, hk_.2.2.2.2⟩ : _ ∧ k_ ≠ gb102))) hk) (Kd.R_base ho0)) (Kd.N_base ho1)) (fun _ h_ => h_.1)); have n2_ := Y0.mk (Y1.blk hk (g' := gb101) (o := .cells #[.int .i64 0, .string (⟨#[]⟩ : ByteArray), .slice none 0 0, .slice none 0 0] 37 (0, 0)) QQ NB101_102.out (by simp)); have n3_ := Y0.mk (Y1.blk hk (g' := gb115) (o := .cells #[.int .i64 t103, .string t104, .slice Ao14 t105.length co14, .slice Ao15 t108.length co15] 37 (0, 0)) QQ NB115_102.out (by simp)); have n4_ := Y0.mk (Kd.R_lower (Kd.R_new' (Kd.R_newM (M := fun k_ => (w.heap.size ≤ k_)) (Kd.R_mono (ok' := fun k_ => True) ho0 (fun _ hk_ => trivial)) (Ym QB) (fun k_ h_ => h_)) (Kd.R_lt Zb)) (Ym QB)); have n5_ := Y0.mk (Kd.N_lower (Kd.N_mono (ok' := fun k_ => (w.heap.size ≤ k_) ∧ some k_ ≠ (v124 : Value).ownBlock ∧ some k_ ≠ (.slice Ao14 t105.length co14 : Value).ownBlock ∧ some k_ ≠ (.slice Ao15 t108.length co15 : Value).ownBlock ∧ k_ ≠ gb101 ∧ k_ ≠ gb115 ∧ k_ ≠ gb102) ho1 (fun k_ hk_ => ⟨(Nat.le_trans (Ym QB) hk_.1), hk_.2, (Kd.fresh' (Kd.R_lt Zb) k_ hk_.1), (Kd.fresh' (Kd.N_lt Ze) k_ hk_.1), (Kd.freshB (g := gb101) (o := .cells #[.int .i64 0, .string (⟨#[]⟩ : ByteArray), .slice none 0 0, .slice none 0 0] 37 (0, 0)) QQ k_ hk_.1), (Kd.freshB (g := gb115) (o := .cells #[.int .i64 t103, .string t104, .slice Ao14 t105.length co14, .slice Ao15 t108.length co15] 37 (0, 0)) QQ k_ hk_.1), (Yw.fresh QI75_102 k_ hk_.1)⟩)) (Ym QB)); have n6_ := Y0.mk (hb); have n7_ := Y0.mk (hi); clear HO_116002 HO_116003 BK101 BK115 HB HI102; have HO_116002 := n0_; have HO_116003 := n1_; have BK101 := n2_; have BK115 := n3_; have HO125 := n4_; have HO128 := n5_; have HB := n6_; have HI102 := n7_; clear n0_ n1_ n2_ n3_ n4_ n5_ n6_ n7_; (try clear hb); (try clear hb2); (try clear hk); (try clear hi); (try clear ho0); (try clear ho1); obtain ⟨HGz29, hgz29⟩ := HI102.out; have hcz29_0 := YZ HGz29; have hcz29_1 := Y10 HGz29; have hcz29_2 := Y11 HGz29; have hcz29_3 := Y12 HGz29; have hfz29_0 := Y7 HGz29 0; have hfz29_1 := Y7 HGz29 1; have hfz29_2 := Y7 HGz29 2; have hfz29_3 := Y7 HGz29 3; clear HGz29 hgz29; have hnb30 := NB115_101.out; have hnc30 := NB101_115.out; have hnb31 := NB115_102.out; have hnc31 := NB102_115.out; obtain ⟨hcz32_0, hcz32_1, hcz32_2, hcz32_3, hfz32_0, hfz32_1, hfz32_2, hfz32_3⟩ := YA BK115.out; have hnb33 := NB101_102.out; have hnc33 := NB102_101.out; obtain ⟨hcz34_0, hcz34_1, hcz34_2, hcz34_3, hfz34_0, hfz34_1, hfz34_2, hfz34_3⟩ := YA BK101.out))
      refine bodyPost_ret (Y1O rfl _ _ gb101 37 #[.int .i64 t103, .string t104, .slice Ao14 t105.length co14, .slice Ao15 t108.length co15] (0, 0) _ rfl Z2n Tryd.underlying37 rfl Z6) rfl ?_
      exact ⟨_, _, Z2, by (with_reducible repeat (first | apply Kd.R_alloc | apply Kd.R_drewN | apply Kd.R_drew)); exact Kd.R_mono (Kd.R_far (p := ⟨gb101, 3, none⟩) (Kd.R_far (p := ⟨gb101, 2, none⟩) (Kd.R_far (p := ⟨gb101, 1, none⟩) (Kd.R_far (p := ⟨gb101, 0, none⟩) (Kd.R_types HO_116002.out BK101.out (by decide)) (fun _ hk => hk.2) (.int .i64 t103)) (fun _ hk => hk.2) (.string t104)) (fun _ hk => hk.2) (.slice Ao14 t105.length co14)) (fun _ hk => hk.2) (.slice Ao15 t108.length co15)) (fun _ hk => hk.1.1), by (with_reducible repeat (first | apply Kd.N_alloc | apply Kd.N_drewN | apply Kd.N_drew)); exact Kd.N_mono (Kd.N_far (p := ⟨gb101, 3, none⟩) (Kd.N_far (p := ⟨gb101, 2, none⟩) (Kd.N_far (p := ⟨gb101, 1, none⟩) (Kd.N_far (p := ⟨gb101, 0, none⟩) (Kd.N_mono HO_116003.out (fun k_ hk => (⟨hk, hk.1.1.2.2.1⟩ : _ ∧ k_ ≠ gb101))) (fun _ hk => hk.2) (.int .i64 t103)) (fun _ hk => hk.2) (.string t104)) (fun _ hk => hk.2) (.slice Ao14 t105.length co14)) (fun _ hk => hk.2) (.slice Ao15 t108.length co15)) (fun _ hk => ⟨hk.1.1.1.1, hk.1.1.1.2.1⟩), QB⟩
     ·rw [if_neg c26] at H
      have c26b0 : (t131 == 0) = false := beq_eq_false_iff_ne.mpr c26
      have c26b1 : (t131 != 0) = true := bne_iff_ne.mpr c26
      simp only [Option.some.injEq, Prod.mk.injEq] at H
      obtain ⟨rfl, rfl, rfl, rfl, rfl, rfl⟩ := H
      obtain ⟨hcz35_0, hcz35_1, hcz35_2, hcz35_3, hfz35_0, hfz35_1, hfz35_2, hfz35_3⟩ := YA HI102.out.1
      try go_wp2_with (first | ((with_reducible refine Yn (f := 54) rfl ?_); refine YO (some 40) rfl rfl Tryd.func54 Z6 rfl #[.pointer (some ⟨gb102, 0, none⟩), .int .i64 x103001_5, .int .i64 2] rfl Z0 ?_; (with_reducible refine (Ys.calls gb102 x103000_5 x103001_5 x103002_5 x103003_5 x103001_5 2 t121 t122 t123 t126 t129 t130 t131 t132 w _ ?side1 ?side2 A25.out).mono ?_); (case side1 => exact QI75_102); (case side2 => exact QB); rintro e w36 ⟨v124, v127, rfl, ho0, ho1, hi, hb, hk⟩; refine ⟨_, rfl, ?_⟩; have n0_ := Y0.mk (Kd.R_mono (Kd.R_told (Kd.R_oldK (Yw.apart (show Yw w _ gb102 x103000_5 x103001_5 x103002_5 x103003_5 from QI75_102) Zb (by decide)) hk) (Kd.R_base ho0)) (fun _ h_ => h_.1)); have n1_ := Y0.mk (Kd.N_mono (Kd.N_told (Kd.N_told (Kd.N_oldK (Kd.N_mono (ok := fun k_ => (((w.heap.size ≤ k_)) ∧ (some k_ ≠ (.slice Ao14 t105.length co14 : Value).ownBlock ∧ (k_ ≠ gb101 ∧ (k_ ≠ gb115 ∧ k_ ≠ gb102))))) Ze (fun k_ hk_ => (⟨hk_, hk_.2.2.2.2⟩ : _ ∧ k_ ≠ gb102))) hk) (Kd.R_base ho0)) (Kd.N_base ho1)) (fun _ h_ => h_.1)); have n2_ := Y0.mk (Y1.blk hk (g' := gb101) (o := .cells #[.int .i64 0, .string (⟨#[]⟩ : ByteArray), .slice none 0 0, .slice none 0 0] 37 (0, 0)) QQ NB101_102.out (by simp)); have n3_ := Y0.mk (Y1.blk hk (g' := gb115) (o := .cells #[.int .i64 t103, .string t104, .slice Ao14 t105.length co14, .slice Ao15 t108.length co15] 37 (0, 0)) QQ NB115_102.out (by simp)); have n4_ := Y0.mk (Kd.R_lower (Kd.R_new' (Kd.R_newM (M := fun k_ => (w.heap.size ≤ k_)) (Kd.R_mono (ok' := fun k_ => True) ho0 (fun _ hk_ => trivial)) (Ym QB) (fun k_ h_ => h_)) (Kd.R_lt Zb)) (Ym QB)); have n5_ := Y0.mk (Kd.N_lower (Kd.N_mono (ok' := fun k_ => (w.heap.size ≤ k_) ∧ some k_ ≠ (v124 : Value).ownBlock ∧ some k_ ≠ (.slice Ao14 t105.length co14 : Value).ownBlock ∧ some k_ ≠ (.slice Ao15 t108.length co15 : Value).ownBlock ∧ k_ ≠ gb101 ∧ k_ ≠ gb115 ∧ k_ ≠ gb102) ho1 (fun k_ hk_ => ⟨(Nat.le_trans (Ym QB) hk_.1), hk_.2, (Kd.fresh' (Kd.R_lt Zb) k_ hk_.1), (Kd.fresh' (Kd.N_lt Ze) k_ hk_.1), (Kd.freshB (g := gb101) (o := .cells #[.int .i64 0, .string (⟨#[]⟩ : ByteArray), .slice none 0 0, .slice none 0 0] 37 (0, 0)) QQ k_ hk_.1), (Kd.freshB (g := gb115) (o := .cells #[.int .i64 t103, .string t104, .slice Ao14 t105.length co14, .slice Ao15 t108.length co15] 37 (0, 0)) QQ k_ hk_.1), (Yw.fresh QI75_102 k_ hk_.1)⟩)) (Ym QB)); have n6_ := Y0.mk (hb); have n7_ := Y0.mk (hi); clear HO_116002 HO_116003 BK101 BK115 HB HI102; have HO_116002 := n0_; have HO_116003 := n1_; have BK101 := n2_; have BK115 := n3_; have HO125 := n4_; have HO128 := n5_; have HB := n6_; have HI102 := n7_; clear n0_ n1_ n2_ n3_ n4_ n5_ n6_ n7_; (try clear hb); (try clear hb2); (try clear hk); (try clear hi); (try clear ho0); (try clear ho1); obtain ⟨HGz37, hgz37⟩ := HI102.out; have hcz37_0 := YZ HGz37; have hcz37_1 := Y10 HGz37; have hcz37_2 := Y11 HGz37; have hcz37_3 := Y12 HGz37; have hfz37_0 := Y7 HGz37 0; have hfz37_1 := Y7 HGz37 1; have hfz37_2 := Y7 HGz37 2; have hfz37_3 := Y7 HGz37 3; clear HGz37 hgz37))
      have n_ := Y4q (Kd.R_drew HO_116002.out) (Kd.N_drew HO_116003.out) (Kd.R_drew HO125.out) (Kd.N_drew HO128.out) (Ya BK101.out) (Ya BK115.out) (Yw.drew HI102.out) (YP HB.out)
      clear HO_116002
      clear HO_116003
      clear HO125
      clear HO128
      clear BK101
      clear BK115
      clear HI102
      clear HB
      obtain ⟨HO_116002, HO_116003, HO125, HO128, BK101, BK115, HI102, HB⟩ := n_
      refine Y1l (n := 12) (S := fun w' => w'.cell? ⟨gb102, 0, none⟩ = some (.string t129) ∧ w'.cell? ⟨gb102, 1, none⟩ = some (.int .i64 t130) ∧ w'.cell? ⟨gb102, 2, none⟩ = some (.int .i64 t131) ∧ w'.cell? ⟨gb102, 3, none⟩ = some (.int .i64 t132)) (ds := []) Y4x Z6 rfl rfl ⟨YZ HI102.out.1, Y10 HI102.out.1, Y11 HI102.out.1, Y12 HI102.out.1⟩ (fun hHeld => ?_); refine YW YJ.tab8 YJ.bits8 (fun HT_ HW_ => ?_)
      generalize w36.drew = w38 at HO_116002 HO_116003 HO125 HO128 BK101 BK115 HI102 HB hHeld ⊢
      refine pY 0 46 Y4y ?_
      refine pY 1 47 Y5y ?_
      refine pY 2 48 Y5z ?_
      refine pY 3 49 Y6d ?_
      refine pY 5 51 Y5d ?_
      refine pY 6 52 Y5e ?_
      refine pY 7 53 Y5f ?_
      refine pT 4 50 Y4a ?_
      refine pT 8 54 Y3E ?_
      refine Y2T (i := 9) (N := none) Y3b rfl rfl (Y1j HT_.out Z6) (by decide) (fun K hK => ?_)
      have hs39 : w38.cell? ⟨gb101, 0, none⟩ = some (.int .i64 0) := (Y2 BK101.out 0).trans rfl
      have hfs39 := Y7 BK101.out 0
      have hns39_1 := NB115_101.out
      have hms39_1 := NB101_115.out
      have hs40 : w38.cell? ⟨gb101, 1, none⟩ = some (.string (⟨#[]⟩ : ByteArray)) := (Y2 BK101.out 1).trans rfl
      have hfs40 := Y7 BK101.out 1
      have hns40_1 := NB115_101.out
      have hms40_1 := NB101_115.out
      have hs41 : w38.cell? ⟨gb101, 2, none⟩ = some (.slice none 0 0) := (Y2 BK101.out 2).trans rfl
      have hfs41 := Y7 BK101.out 2
      have hns41_1 := NB115_101.out
      have hms41_1 := NB101_115.out
      have hs42 : w38.cell? ⟨gb101, 3, none⟩ = some (.slice none 0 0) := (Y2 BK101.out 3).trans rfl
      have hfs42 := Y7 BK101.out 3
      have hns42_1 := NB115_101.out
      have hms42_1 := NB101_115.out
      refine Y4V (w1 := ?_) (by rfl) rfl ?_ ?_
      rotate_left
      ·go_simp
       rfl
      refine hK.out _ _ ⟨((YQ (p := ⟨gb101, _, none⟩) NB102_101.out _).trans (((YQ (p := ⟨gb101, _, none⟩) NB102_101.out _).trans (((YQ (p := ⟨gb101, _, none⟩) NB102_101.out _).trans (((YQ (p := ⟨gb101, _, none⟩) NB102_101.out _).trans (hHeld.1)))))))), ((YQ (p := ⟨gb101, _, none⟩) NB102_101.out _).trans (((YQ (p := ⟨gb101, _, none⟩) NB102_101.out _).trans (((YQ (p := ⟨gb101, _, none⟩) NB102_101.out _).trans (((YQ (p := ⟨gb101, _, none⟩) NB102_101.out _).trans (hHeld.2.1)))))))), ((YQ (p := ⟨gb101, _, none⟩) NB102_101.out _).trans (((YQ (p := ⟨gb101, _, none⟩) NB102_101.out _).trans (((YQ (p := ⟨gb101, _, none⟩) NB102_101.out _).trans (((YQ (p := ⟨gb101, _, none⟩) NB102_101.out _).trans (hHeld.2.2.1)))))))), ((YQ (p := ⟨gb101, _, none⟩) NB102_101.out _).trans (((YQ (p := ⟨gb101, _, none⟩) NB102_101.out _).trans (((YQ (p := ⟨gb101, _, none⟩) NB102_101.out _).trans (((YQ (p := ⟨gb101, _, none⟩) NB102_101.out _).trans (hHeld.2.2.2))))))))⟩ (fun hHeld => ?_)
      clear hK K
      refine pY 10 3 Y3c ?_
      refine pY 11 4 Y3d ?_
      refine Y1Q (Y1a HT_.out Z6) ?_
      try go_wp2
      refine bodyPost_ret (Y1O rfl _ _ gb101 37 #[.int .i64 0, .string (⟨#[]⟩ : ByteArray), .slice none 0 0, .slice none 0 0] (0, 0) _ rfl Z1W Tryd.underlying37 rfl Z6) rfl ?_
      exact Z2k
    ·replace c24 := Bool.eq_false_iff.mpr c24
     subst c24
     have H1 : (if x103002_5 = 0 then (some (t103, t104, t105, t108, (a0.size : Int), 0)) else (some (0, (⟨#[]⟩ : ByteArray), ([] : List ByteArray), ([] : List (S37)), x103003_5, x103002_5))) = some (r1, r2, r3, r4, r5, r6) := by rw [if_neg (show ¬ (false = true) by decide)] at H; exact H
     clear H
     have H := H1
     clear H1
     by_cases c43 : x103002_5 = 0
     ·rw [if_pos c43] at H
      have c43b0 : (x103002_5 == 0) = true := beq_iff_eq.mpr c43
      have c43b1 : (x103002_5 != 0) = false := bne_eq_false_iff_eq.mpr c43
      clear c43
      simp only [Option.some.injEq, Prod.mk.injEq] at H
      obtain ⟨rfl, rfl, rfl, rfl, rfl, rfl⟩ := H
      obtain ⟨hcz44_0, hcz44_1, hcz44_2, hcz44_3, hfz44_0, hfz44_1, hfz44_2, hfz44_3⟩ := YA HI102.out.1
      have hnb45 := NB115_101.out
      have hnc45 := NB101_115.out
      have hnb46 := NB115_102.out
      have hnc46 := NB102_115.out
      obtain ⟨hcz47_0, hcz47_1, hcz47_2, hcz47_3, hfz47_0, hfz47_1, hfz47_2, hfz47_3⟩ := YA BK115.out
      have hnb48 := NB101_102.out
      have hnc48 := NB102_101.out
      obtain ⟨hcz49_0, hcz49_1, hcz49_2, hcz49_3, hfz49_0, hfz49_1, hfz49_2, hfz49_3⟩ := YA BK101.out
      go_wp2
      refine bodyPost_ret (Y1O rfl _ _ gb101 37 #[.int .i64 t103, .string t104, .slice Ao14 t105.length co14, .slice Ao15 t108.length co15] (0, 0) _ rfl Z2n Tryd.underlying37 rfl Z6) rfl ?_
      exact ⟨_, _, Z2, by (with_reducible repeat (first | apply Kd.R_alloc | apply Kd.R_drewN | apply Kd.R_drew)); exact Kd.R_mono (Kd.R_far (p := ⟨gb101, 3, none⟩) (Kd.R_far (p := ⟨gb101, 2, none⟩) (Kd.R_far (p := ⟨gb101, 1, none⟩) (Kd.R_far (p := ⟨gb101, 0, none⟩) (Kd.R_types HO_116002.out BK101.out (by decide)) (fun _ hk => hk.2) (.int .i64 t103)) (fun _ hk => hk.2) (.string t104)) (fun _ hk => hk.2) (.slice Ao14 t105.length co14)) (fun _ hk => hk.2) (.slice Ao15 t108.length co15)) (fun _ hk => hk.1), by (with_reducible repeat (first | apply Kd.N_alloc | apply Kd.N_drewN | apply Kd.N_drew)); exact Kd.N_mono (Kd.N_far (p := ⟨gb101, 3, none⟩) (Kd.N_far (p := ⟨gb101, 2, none⟩) (Kd.N_far (p := ⟨gb101, 1, none⟩) (Kd.N_far (p := ⟨gb101, 0, none⟩) (Kd.N_mono HO_116003.out (fun k_ hk => (⟨hk, hk.2.2.1⟩ : _ ∧ k_ ≠ gb101))) (fun _ hk => hk.2) (.int .i64 t103)) (fun _ hk => hk.2) (.string t104)) (fun _ hk => hk.2) (.slice Ao14 t105.length co14)) (fun _ hk => hk.2) (.slice Ao15 t108.length co15)) (fun _ hk => ⟨hk.1.1, hk.1.2.1⟩), QB⟩
     ·rw [if_neg c43] at H
      have c43b0 : (x103002_5 == 0) = false := beq_eq_false_iff_ne.mpr c43
      have c43b1 : (x103002_5 != 0) = true := bne_iff_ne.mpr c43
      simp only [Option.some.injEq, Prod.mk.injEq] at H
      obtain ⟨rfl, rfl, rfl, rfl, rfl, rfl⟩ := H
      obtain ⟨hcz50_0, hcz50_1, hcz50_2, hcz50_3, hfz50_0, hfz50_1, hfz50_2, hfz50_3⟩ := YA HI102.out.1
      try go_wp2
      have n_ := Y3w (Kd.R_drew HO_116002.out) (Kd.N_drew HO_116003.out) (Ya BK101.out) (Ya BK115.out) (Yw.drew HI102.out) (YP HB.out)
      clear HO_116002
      clear HO_116003
      clear BK101
      clear BK115
      clear HI102
      clear HB
      obtain ⟨HO_116002, HO_116003, BK101, BK115, HI102, HB⟩ := n_
      refine Y1l (n := 12) (S := fun w' => w'.cell? ⟨gb102, 0, none⟩ = some (.string x103000_5) ∧ w'.cell? ⟨gb102, 1, none⟩ = some (.int .i64 x103001_5) ∧ w'.cell? ⟨gb102, 2, none⟩ = some (.int .i64 x103002_5) ∧ w'.cell? ⟨gb102, 3, none⟩ = some (.int .i64 x103003_5)) (ds := []) Y4x Z6 rfl rfl ⟨YZ HI102.out.1, Y10 HI102.out.1, Y11 HI102.out.1, Y12 HI102.out.1⟩ (fun hHeld => ?_); refine YW YJ.tab8 YJ.bits8 (fun HT_ HW_ => ?_)
      generalize wc.drew = w51 at HO_116002 HO_116003 BK101 BK115 HI102 HB hHeld ⊢
      refine pY 0 46 Y4y ?_
      refine pY 1 47 Y5y ?_
      refine pY 2 48 Y5z ?_
      refine pY 3 49 Y6d ?_
      refine pY 5 51 Y5d ?_
      refine pY 6 52 Y5e ?_
      refine pY 7 53 Y5f ?_
      refine pT 4 50 Y4a ?_
      refine pT 8 54 Y3E ?_
      refine Y2T (i := 9) (N := none) Y3b rfl rfl (Y1j HT_.out Z6) (by decide) (fun K hK => ?_)
      have hs52 : w51.cell? ⟨gb101, 0, none⟩ = some (.int .i64 0) := (Y2 BK101.out 0).trans rfl
      have hfs52 := Y7 BK101.out 0
      have hns52_1 := NB115_101.out
      have hms52_1 := NB101_115.out
      have hs53 : w51.cell? ⟨gb101, 1, none⟩ = some (.string (⟨#[]⟩ : ByteArray)) := (Y2 BK101.out 1).trans rfl
      have hfs53 := Y7 BK101.out 1
      have hns53_1 := NB115_101.out
      have hms53_1 := NB101_115.out
      have hs54 : w51.cell? ⟨gb101, 2, none⟩ = some (.slice none 0 0) := (Y2 BK101.out 2).trans rfl
      have hfs54 := Y7 BK101.out 2
      have hns54_1 := NB115_101.out
      have hms54_1 := NB101_115.out
      have hs55 : w51.cell? ⟨gb101, 3, none⟩ = some (.slice none 0 0) := (Y2 BK101.out 3).trans rfl
      have hfs55 := Y7 BK101.out 3
      have hns55_1 := NB115_101.out
      have hms55_1 := NB101_115.out
      refine Y4V (w1 := ?_) (by rfl) rfl ?_ ?_
      rotate_left
      ·go_simp
       rfl
      refine hK.out _ _ ⟨((YQ (p := ⟨gb101, _, none⟩) NB102_101.out _).trans (((YQ (p := ⟨gb101, _, none⟩) NB102_101.out _).trans (((YQ (p := ⟨gb101, _, none⟩) NB102_101.out _).trans (((YQ (p := ⟨gb101, _, none⟩) NB102_101.out _).trans (hHeld.1)))))))), ((YQ (p := ⟨gb101, _, none⟩) NB102_101.out _).trans (((YQ (p := ⟨gb101, _, none⟩) NB102_101.out _).trans (((YQ (p := ⟨gb101, _, none⟩) NB102_101.out _).trans (((YQ (p := ⟨gb101, _, none⟩) NB102_101.out _).trans (hHeld.2.1)))))))), ((YQ (p := ⟨gb101, _, none⟩) NB102_101.out _).trans (((YQ (p := ⟨gb101, _, none⟩) NB102_101.out _).trans (((YQ (p := ⟨gb101, _, none⟩) NB102_101.out _).trans (((YQ (p := ⟨gb101, _, none⟩) NB102_101.out _).trans (hHeld.2.2.1)))))))), ((YQ (p := ⟨gb101, _, none⟩) NB102_101.out _).trans (((YQ (p := ⟨gb101, _, none⟩) NB102_101.out _).trans (((YQ (p := ⟨gb101, _, none⟩) NB102_101.out _).trans (((YQ (p := ⟨gb101, _, none⟩) NB102_101.out _).trans (hHeld.2.2.2))))))))⟩ (fun hHeld => ?_)
      clear hK K
      refine pY 10 3 Y3c ?_
      refine pY 11 4 Y3d ?_
      refine Y1Q (Y1a HT_.out Z6) ?_
      try go_wp2
      refine bodyPost_ret (Y1O rfl _ _ gb101 37 #[.int .i64 0, .string (⟨#[]⟩ : ByteArray), .slice none 0 0, .slice none 0 0] (0, 0) _ rfl Z1W Tryd.underlying37 rfl Z6) rfl ?_
      exact Z2k
end Go.Proofs.YtbpbfboaofkpaaaDoor.Print
end
section
set_option linter.unusedVariables false
namespace Go.Proofs.YtbpbfboaofkpaaaDoor.Print
open Go.RowKit Go.Shelf Go.Lib Go.Proofs.YtbpbfboaofkpaaaDoorW.PrintWords
def Y3v (sep : List UInt8) : List ByteArray → List UInt8
 | [] => []
 | [x] => x.data.toList
 | x :: y :: l => x.data.toList ++ (sep ++ Y3v sep (y :: l))
theorem Y6r (sep : List UInt8) : ∀ l : List ByteArray, Y3v sep l = Lib.join (l.map (·.data.toList)) sep
 | [] => rfl
 | [x] => by rw [List.map_cons, List.map_nil, Lib.join_one]; rfl
 | x :: y :: l => by
  have ih := Y6r sep (y :: l)
  rw [Y3v, ih, List.map_cons, List.map_cons, Lib.join_cons, Lib.join_cons]
  simp [Lib.joinTail]
theorem Y5F (sep : List UInt8) (hs : sep.length ≤ 1000) : ∀ l : List ByteArray, (∀ x ∈ l, x.size ≤ 1000000) → (Y3v sep l).length ≤ l.length * 1001000
 | [], _ => by simp [Y3v]
 | [x], h => by
  have := h x (List.mem_cons_self ..)
  have e : (Y3v sep [x]).length = x.size := Y5k x
  rw [e]; simp; omega
 | x :: y :: l, h => by
  have h1 := h x (List.mem_cons_self ..)
  have ih := Y5F sep hs (y :: l) (fun z hz => h z (List.mem_cons_of_mem _ hz))
  have e := Y5k x
  rw [Y3v, List.length_append, List.length_append, e]
  simp only [List.length_cons] at ih ⊢
  omega
def Y5G (l : List ByteArray) (s : ByteArray) : Bool := decide (l.length ≤ 1000000) && l.all (fun x => decide (x.size ≤ 1000000)) && decide (s.size ≤ 1000)
def strings_Join.f (l0 : List ByteArray) (a1 : ByteArray) : Option ByteArray := if Y5G l0 a1 then some ⟨(Y3v a1.data.toList l0).toArray⟩ else none
theorem strings_Join.calls (A0 : Option Addr) (c0 : Nat) (l0 : List ByteArray) (a1 : ByteArray) (r : ByteArray) (w : World) (hr0 : Kd.C Kd.string w A0 l0.length l0) (hc0 : l0.length ≤ c0) (h : strings_Join.f l0 a1 = some r) :
  Calls Tryd.prog 51 #[.slice A0 l0.length c0, .string a1] w fun e w' => e = .returned (.string r) ∧ Below w.heap.size w w' := by
 unfold strings_Join.f at h
 by_cases hj : Y5G l0 a1 = true
 ·rw [if_pos hj] at h
  obtain rfl := Option.some.inj h
  unfold Y5G at hj
  simp only [Bool.and_eq_true, decide_eq_true_eq, List.all_eq_true] at hj
  obtain ⟨⟨j1, j2⟩, j3⟩ := hj
  by_cases hn : l0.length = 0
  ·obtain rfl := List.length_eq_zero_iff.1 hn
   exact (Tryd.strings_Join_none A0 c0 a1 w).mono fun e w' ⟨he, hw⟩ => ⟨he, hw ▸ Below.refl _ _⟩
  ·obtain ⟨ad, hA⟩ : ∃ ad, A0 = some ad := by
    obtain ⟨ad, c, e, _⟩ := Kd.C_get hr0 (⟨#[]⟩ : ByteArray) 0 (by omega) (by omega)
    exact ⟨ad, e⟩
   subst hA
   have hcell : ∀ (j : Nat) x, l0[j]? = some x → w.cell? (ad.add j) = some (.string x) := by
    intro j x hx
    have hjl : j < l0.length := (List.getElem?_eq_some_iff.1 hx).1
    obtain ⟨ad', c, e, _, hK, hc⟩ := Kd.C_get hr0 (⟨#[]⟩ : ByteArray) (j : Int) (by omega) (by omega)
    obtain rfl := Option.some.inj e
    have hk : c = [.string (l0.getD (j : Int).toNat ⟨#[]⟩)] := hK
    subst hk
    have e1 : w.cell? (ad.add ((j : Int).toNat * 1 + 0)) = some (.string (l0.getD (j : Int).toNat ⟨#[]⟩)) := hc 0 _ rfl
    rw [Nat.mul_one, Nat.add_zero, Int.toNat_natCast, List.getD_eq_getElem?_getD, hx] at e1
    exact e1
   obtain ⟨bk, o, sp⟩ := ad
   have h0 := hcell 0 _ (List.getElem?_eq_getElem (by omega : 0 < l0.length))
   have hsp : sp = none := by
    have := World.cell?_spot h0
    simpa [Addr.add] using this
   subst hsp
   have hb := World.block_lt_of_cell? w _ h0
   have hp : ∀ j, (⟨bk, o, none⟩ : Addr).add j = ⟨bk, o + j, none⟩ := fun j => by unfold Addr.add; split <;> simp_all
   have hlen := Y5F a1.data.toList (by rw [Y5k]; exact j3) l0 j2
   rw [Y6r] at hlen ⊢
   exact Tryd.strings_Join bk o c0 l0 a1 w (fun j x hx => by rw [← hp j]; exact hcell j x hx) (by simpa [Addr.add] using hb) (by omega) hc0 (by omega)
 ·rw [if_neg hj] at h; cases h
end Go.Proofs.YtbpbfboaofkpaaaDoor.Print
end
section
namespace Go.Proofs.YtbpbfboaofkpaaaDoor.Print
open Go.RowKit Go.Proofs.YtbpbfboaofkpaaaDoorW.PrintWords Go.Proofs.YtbpbfboaofkpaaaDoorW.PrintLast Go.Proofs.YtbpbfboaofkpaaaDoorW.PrintMore
attribute [local go_sem] max2_int min2_int max_two min_two max_three min_three max_four min_four
set_option linter.unusedVariables false
set_option linter.unusedSimpArgs false
mutual
def YH.f : Nat → Int → ByteArray → List ByteArray → List (S37) → Option (ByteArray)
 | 0, _, _, _, _ => none
 | k + 1, a0_0, a0_1, l0_2, l0_3 => if a0_0 = 1 then (if 1 + a0_1.size ≤ 9223372036854775807 then (if 1 + a0_1.size + 1 ≤ 9223372036854775807 then (some (((⟨#[60]⟩ : ByteArray) ++ a0_1) ++ (⟨#[62]⟩ : ByteArray))) else (none)) else (none)) else (if a0_0 = 2 then (if 0 < (l0_3.length : Int) then ((YK.f k ((Yk l0_3 0).f0) ((Yk l0_3 0).f1) ((Yk l0_3 0).f2) ((Yk l0_3 0).f3)).bind fun t103 => (if 1 + t103.size ≤ 9223372036854775807 then (some ((⟨#[94]⟩ : ByteArray) ++ t103)) else (none))) else (none)) else (if a0_0 = 3 then (if 0 < (l0_3.length : Int) then ((YK.f k ((Yk l0_3 0).f0) ((Yk l0_3 0).f1) ((Yk l0_3 0).f2) ((Yk l0_3 0).f3)).bind fun t105 => (if t105.size + 1 ≤ 9223372036854775807 then (if 1 < (l0_3.length : Int) then ((YK.f k ((Yk l0_3 1).f0) ((Yk l0_3 1).f1) ((Yk l0_3 1).f2) ((Yk l0_3 1).f3)).bind fun t107 => (if t105.size + 1 + t107.size ≤ 9223372036854775807 then (some ((t105 ++ (⟨#[47]⟩ : ByteArray)) ++ t107)) else (none))) else (none)) else (none))) else (none)) else (if a0_0 = 4 then (if 0 < (l0_3.length : Int) then ((YK.f k ((Yk l0_3 0).f0) ((Yk l0_3 0).f1) ((Yk l0_3 0).f2) ((Yk l0_3 0).f3)).bind fun t109 => (if t109.size + 1 ≤ 9223372036854775807 then (if 1 < (l0_3.length : Int) then ((YK.f k ((Yk l0_3 1).f0) ((Yk l0_3 1).f1) ((Yk l0_3 1).f2) ((Yk l0_3 1).f3)).bind fun t111 => (if t109.size + 1 + t111.size ≤ 9223372036854775807 then (some ((t109 ++ (⟨#[124]⟩ : ByteArray)) ++ t111)) else (none))) else (none)) else (none))) else (none)) else (if a0_0 = 5 then (if 0 < (l0_3.length : Int) then ((YK.f k ((Yk l0_3 0).f0) ((Yk l0_3 0).f1) ((Yk l0_3 0).f2) ((Yk l0_3 0).f3)).bind fun t113 => (if t113.size + 1 ≤ 9223372036854775807 then (some (t113 ++ (⟨#[42]⟩ : ByteArray))) else (none))) else (none)) else (if a0_0 = 6 then (if 0 < (l0_3.length : Int) then ((YK.f k ((Yk l0_3 0).f0) ((Yk l0_3 0).f1) ((Yk l0_3 0).f2) ((Yk l0_3 0).f3)).bind fun t115 => (if t115.size + 1 ≤ 9223372036854775807 then (some (t115 ++ (⟨#[43]⟩ : ByteArray))) else (none))) else (none)) else (if a0_0 = 7 then (if 0 < (l0_3.length : Int) then ((YK.f k ((Yk l0_3 0).f0) ((Yk l0_3 0).f1) ((Yk l0_3 0).f2) ((Yk l0_3 0).f3)).bind fun t117 => (if t117.size + 1 ≤ 9223372036854775807 then (some (t117 ++ (⟨#[63]⟩ : ByteArray))) else (none))) else (none)) else ((strings_Join.f l0_2 (⟨#[62, 124, 60]⟩ : ByteArray)).bind fun t118 => (if 3 + t118.size ≤ 9223372036854775807 then (if 3 + t118.size + 2 ≤ 9223372036854775807 then (some (((⟨#[33, 40, 60]⟩ : ByteArray) ++ t118) ++ (⟨#[62, 41]⟩ : ByteArray))) else (none)) else (none)))))))))
def YK.f : Nat → Int → ByteArray → List ByteArray → List (S37) → Option (ByteArray)
 | 0, _, _, _, _ => none
 | k + 1, a0_0, a0_1, l0_2, l0_3 => if a0_0 = 1 then ((YH.f k a0_0 a0_1 l0_2 l0_3).bind fun t120 => (some t120)) else ((YH.f k a0_0 a0_1 l0_2 l0_3).bind fun t121 => (if 1 + t121.size ≤ 9223372036854775807 then (if 1 + t121.size + 1 ≤ 9223372036854775807 then (some (((⟨#[40]⟩ : ByteArray) ++ t121) ++ (⟨#[41]⟩ : ByteArray))) else (none)) else (none)))
end
theorem YH.mono_j : ∀ k, (∀ y0 y1 y2 y3, LeO (YH.f k y0 y1 y2 y3) (YH.f (k + 1) y0 y1 y2 y3)) ∧ (∀ y0 y1 y2 y3, LeO (YK.f k y0 y1 y2 y3) (YK.f (k + 1) y0 y1 y2 y3))
 | 0 => ⟨fun _ _ _ _ r h => by simp [YH.f] at h, fun _ _ _ _ r h => by simp [YK.f] at h⟩
 | k + 1 => by
  obtain ⟨ih0, ih1⟩ := YH.mono_j k
  refine ⟨?_, ?_⟩
  ·intro y0 y1 y2 y3
   unfold YH.f
   exact QM
  ·intro y0 y1 y2 y3
   unfold YK.f
   exact QM
theorem YH.mono : ∀ a0 a1 a2 a3 k, LeO (YH.f k a0 a1 a2 a3) (YH.f (k + 1) a0 a1 a2 a3) := fun a0 a1 a2 a3 k => (YH.mono_j k).1 a0 a1 a2 a3
abbrev YH.Spec (k : Nat) : Prop := ∀ (a0_0 : Int) (a0_1 : ByteArray) (A0_2 : Option Addr) (c0_2 : Nat) (l0_2 : List ByteArray) (A0_3 : Option Addr) (c0_3 : Nat) (l0_3 : List (S37)) (r : ByteArray) (w : World) (hr0_2 : Kd.C Kd.string w A0_2 l0_2.length l0_2) (hc0_2 : l0_2.length ≤ c0_2) (hr0_3 : Kd.C k37 w A0_3 l0_3.length l0_3) (hc0_3 : l0_3.length ≤ c0_3) (h : YH.f k a0_0 a0_1 l0_2 l0_3 = some r),
  Calls Tryd.prog 24 #[.agg #[.int .i64 a0_0, .string a0_1, .slice A0_2 l0_2.length c0_2, .slice A0_3 l0_3.length c0_3]] w fun e w' => e = .returned (.string r) ∧ Below w.heap.size w w'
abbrev YK.Spec (k : Nat) : Prop := ∀ (a0_0 : Int) (a0_1 : ByteArray) (A0_2 : Option Addr) (c0_2 : Nat) (l0_2 : List ByteArray) (A0_3 : Option Addr) (c0_3 : Nat) (l0_3 : List (S37)) (r : ByteArray) (w : World) (hr0_2 : Kd.C Kd.string w A0_2 l0_2.length l0_2) (hc0_2 : l0_2.length ≤ c0_2) (hr0_3 : Kd.C k37 w A0_3 l0_3.length l0_3) (hc0_3 : l0_3.length ≤ c0_3) (h : YK.f k a0_0 a0_1 l0_2 l0_3 = some r),
  Calls Tryd.prog 50 #[.agg #[.int .i64 a0_0, .string a0_1, .slice A0_2 l0_2.length c0_2, .slice A0_3 l0_3.length c0_3]] w fun e w' => e = .returned (.string r) ∧ Below w.heap.size w w'
set_option maxHeartbeats 8000000 in
def YH.T7 : Bool × List (List Nat × List Nat) := (true, [([], []), ([0], [0]), ([1], [1]), ([2], [2]), ([3], [3]), ([4], [4]), ([], []), ([6], [6]), ([7], [7]), ([8], [8]), ([9, 4], [9]), ([5, 10], [5, 10]), ([11, 10, 0, 1, 2, 3, 4, 5, 6, 7, 8, 9, 10, 11], [11])])
def YH.B7 : List Nat := [0, 1, 3, 7, 15, 31, 0, 64, 192, 448, 991, 2047, 4095]
theorem YH.tab7 : Y3G .any (Y3Z Tryd.f24 7) = YH.T7 := by kernel_rfl
theorem YH.bits7 : Y22 YH.T7.2 YH.B7 = true := by kernel_rfl
def YH.T9 : Bool × List (List Nat × List Nat) := (true, [([], []), ([0], [0]), ([1], [1]), ([2], [2]), ([3], [3]), ([4], [4]), ([], []), ([6], [6]), ([7], [7]), ([8], [8]), ([9, 4], [9]), ([5, 10], [5, 10]), ([11, 10, 0, 1, 2, 3, 4, 5, 6, 7, 8, 9, 10, 11], [11])])
def YH.B9 : List Nat := [0, 1, 3, 7, 15, 31, 0, 64, 192, 448, 991, 2047, 4095]
theorem YH.tab9 : Y3G .any (Y3Z Tryd.f24 9) = YH.T9 := by kernel_rfl
theorem YH.bits9 : Y22 YH.T9.2 YH.B9 = true := by kernel_rfl
set_option maxRecDepth 100000 in
theorem YH.step (k : Nat) (ih : ∀ j_ < k, YH.Spec j_ ∧ YK.Spec j_) : ∀ (a0_0 : Int) (a0_1 : ByteArray) (A0_2 : Option Addr) (c0_2 : Nat) (l0_2 : List ByteArray) (A0_3 : Option Addr) (c0_3 : Nat) (l0_3 : List (S37)) (r : ByteArray) (w : World) (hr0_2 : Kd.C Kd.string w A0_2 l0_2.length l0_2) (hc0_2 : l0_2.length ≤ c0_2) (hr0_3 : Kd.C k37 w A0_3 l0_3.length l0_3) (hc0_3 : l0_3.length ≤ c0_3) (h : YH.f k a0_0 a0_1 l0_2 l0_3 = some r),
  Calls Tryd.prog 24 #[.agg #[.int .i64 a0_0, .string a0_1, .slice A0_2 l0_2.length c0_2, .slice A0_3 l0_3.length c0_3]] w fun e w' => e = .returned (.string r) ∧ Below w.heap.size w w' := by
 intro a0_0 a0_1 A0_2 c0_2 l0_2 A0_3 c0_3 l0_3 r w hr0_2 hc0_2 hr0_3 hc0_3 h
 cases k with
 | zero => exact absurd h (by simp [YH.f])
 | succ k =>
 simp only [YH.f] at h
 have hu37 := Tryd.underlying37
 have HR0_2 := Y0.mk hr0_2
 have HC0_2 := Y0.mk hc0_2
 clear hr0_2 hc0_2
 have HR0_3 := Y0.mk hr0_3
 have HC0_3 := Y0.mk hc0_3
 clear hr0_3 hc0_3
 have HB := Y0.mk (Below.refl w.heap.size w)
 have H : (if a0_0 = 1 then (if 1 + a0_1.size ≤ 9223372036854775807 then (if 1 + a0_1.size + 1 ≤ 9223372036854775807 then (some (((⟨#[60]⟩ : ByteArray) ++ a0_1) ++ (⟨#[62]⟩ : ByteArray))) else (none)) else (none)) else (if a0_0 = 2 then (if 0 < (l0_3.length : Int) then ((YK.f k ((Yk l0_3 0).f0) ((Yk l0_3 0).f1) ((Yk l0_3 0).f2) ((Yk l0_3 0).f3)).bind fun t103 => (if 1 + t103.size ≤ 9223372036854775807 then (some ((⟨#[94]⟩ : ByteArray) ++ t103)) else (none))) else (none)) else (if a0_0 = 3 then (if 0 < (l0_3.length : Int) then ((YK.f k ((Yk l0_3 0).f0) ((Yk l0_3 0).f1) ((Yk l0_3 0).f2) ((Yk l0_3 0).f3)).bind fun t105 => (if t105.size + 1 ≤ 9223372036854775807 then (if 1 < (l0_3.length : Int) then ((YK.f k ((Yk l0_3 1).f0) ((Yk l0_3 1).f1) ((Yk l0_3 1).f2) ((Yk l0_3 1).f3)).bind fun t107 => (if t105.size + 1 + t107.size ≤ 9223372036854775807 then (some ((t105 ++ (⟨#[47]⟩ : ByteArray)) ++ t107)) else (none))) else (none)) else (none))) else (none)) else (if a0_0 = 4 then (if 0 < (l0_3.length : Int) then ((YK.f k ((Yk l0_3 0).f0) ((Yk l0_3 0).f1) ((Yk l0_3 0).f2) ((Yk l0_3 0).f3)).bind fun t109 => (if t109.size + 1 ≤ 9223372036854775807 then (if 1 < (l0_3.length : Int) then ((YK.f k ((Yk l0_3 1).f0) ((Yk l0_3 1).f1) ((Yk l0_3 1).f2) ((Yk l0_3 1).f3)).bind fun t111 => (if t109.size + 1 + t111.size ≤ 9223372036854775807 then (some ((t109 ++ (⟨#[124]⟩ : ByteArray)) ++ t111)) else (none))) else (none)) else (none))) else (none)) else (if a0_0 = 5 then (if 0 < (l0_3.length : Int) then ((YK.f k ((Yk l0_3 0).f0) ((Yk l0_3 0).f1) ((Yk l0_3 0).f2) ((Yk l0_3 0).f3)).bind fun t113 => (if t113.size + 1 ≤ 9223372036854775807 then (some (t113 ++ (⟨#[42]⟩ : ByteArray))) else (none))) else (none)) else (if a0_0 = 6 then (if 0 < (l0_3.length : Int) then ((YK.f k ((Yk l0_3 0).f0) ((Yk l0_3 0).f1) ((Yk l0_3 0).f2) ((Yk l0_3 0).f3)).bind fun t115 => (if t115.size + 1 ≤ 9223372036854775807 then (some (t115 ++ (⟨#[43]⟩ : ByteArray))) else (none))) else (none)) else (if a0_0 = 7 then (if 0 < (l0_3.length : Int) then ((YK.f k ((Yk l0_3 0).f0) ((Yk l0_3 0).f1) ((Yk l0_3 0).f2) ((Yk l0_3 0).f3)).bind fun t117 => (if t117.size + 1 ≤ 9223372036854775807 then (some (t117 ++ (⟨#[63]⟩ : ByteArray))) else (none))) else (none)) else ((strings_Join.f l0_2 (⟨#[62, 124, 60]⟩ : ByteArray)).bind fun t118 => (if 3 + t118.size ≤ 9223372036854775807 then (if 3 + t118.size + 2 ≤ 9223372036854775807 then (some (((⟨#[33, 40, 60]⟩ : ByteArray) ++ t118) ++ (⟨#[62, 41]⟩ : ByteArray))) else (none)) else (none)))))))))) = some r := h
 clear h
 by_cases c2 : a0_0 = 1
 ·rw [if_pos c2] at H
  have c2b0 : (a0_0 == 1) = true := beq_iff_eq.mpr c2
  have c2b1 : (a0_0 != 1) = false := bne_eq_false_iff_eq.mpr c2
  clear c2
  by_cases c3 : 1 + a0_1.size ≤ 9223372036854775807
  ·rw [if_pos c3] at H
   have c3b0 := eq_true c3
   have c3b1 : decide (1 + a0_1.size ≤ 9223372036854775807) = true := decide_eq_true c3
   try have c3b2 : (9223372036854775807 < 1 + a0_1.size) = False := eq_false (Nat.not_lt.2 c3)
   by_cases c4 : 1 + a0_1.size + 1 ≤ 9223372036854775807
   ·rw [if_pos c4] at H
    have c4b0 := eq_true c4
    have c4b1 : decide (1 + a0_1.size + 1 ≤ 9223372036854775807) = true := decide_eq_true c4
    try have c4b2 : (9223372036854775807 < 1 + a0_1.size + 1) = False := eq_false (Nat.not_lt.2 c4)
    obtain rfl := Option.some.inj H
    go_enter Tryd.func24, Tryd.ntmps24
    go_wp2_with (first | ((with_reducible refine YF (N := 1) rfl ?_); refine YE ?hg (N := 1) ?hd (cs := #[.int .i64 a0_0, .string a0_1, .slice A0_2 l0_2.length c0_2, .slice A0_3 l0_3.length c0_3]) (t := 37) ?hr ?_; (case hd => rfl); (case hg => rfl); (case hr => exact Za); intro gb101 hg w5 hbox hb; have n_ := Y31 (Yb QB hb) (hbox) ((by rw [hg]; exact (Ym QB) : w.heap.size ≤ gb101)) ((by rw [hg]; exact (Ym QB) : w.heap.size ≤ gb101)); clear HB; obtain ⟨HB, BK101, GW101, GE101⟩ := n_; clear hb hbox hg; obtain ⟨hcz6_0, hcz6_1, hcz6_2, hcz6_3, hfz6_0, hfz6_1, hfz6_2, hfz6_3⟩ := YA BK101.out))
    go_ret
    exact Z2d
   ·rw [if_neg c4] at H
    exact ZA
  ·rw [if_neg c3] at H
   exact ZA
 ·rw [if_neg c2] at H
  have c2b0 : (a0_0 == 1) = false := beq_eq_false_iff_ne.mpr c2
  have c2b1 : (a0_0 != 1) = true := bne_iff_ne.mpr c2
  by_cases c7 : a0_0 = 2
  ·rw [if_pos c7] at H
   have c7b0 : (a0_0 == 2) = true := beq_iff_eq.mpr c7
   have c7b1 : (a0_0 != 2) = false := bne_eq_false_iff_eq.mpr c7
   clear c7
   by_cases c8 : 0 < (l0_3.length : Int)
   ·rw [if_pos c8] at H
    have c8b0 : decide (0 < (l0_3.length : Int)) = true := decide_eq_true c8
    have c8b1 : decide (0 < l0_3.length) = true := decide_eq_true (by omega)
    clear c8
    replace H := Option.bind_eq_some_iff.mp H
    obtain ⟨t103, A90, H⟩ := H
    replace H : (if 1 + t103.size ≤ 9223372036854775807 then (some ((⟨#[94]⟩ : ByteArray) ++ t103)) else (none)) = some r := H
    have A9 := Y0.mk A90
    clear A90
    by_cases c10 : 1 + t103.size ≤ 9223372036854775807
    ·rw [if_pos c10] at H
     have c10b0 := eq_true c10
     have c10b1 : decide (1 + t103.size ≤ 9223372036854775807) = true := decide_eq_true c10
     try have c10b2 : (9223372036854775807 < 1 + t103.size) = False := eq_false (Nat.not_lt.2 c10)
     obtain rfl := Option.some.inj H
     go_enter Tryd.func24, Tryd.ntmps24
     go_wp2_with (first | ((with_reducible refine YF (N := 1) rfl ?_); refine YE ?hg (N := 1) ?hd (cs := #[.int .i64 a0_0, .string a0_1, .slice A0_2 l0_2.length c0_2, .slice A0_3 l0_3.length c0_3]) (t := 37) ?hr ?_; (case hd => rfl); (case hg => rfl); (case hr => exact Za); intro gb101 hg w11 hbox hb; have n_ := Y31 (Yb QB hb) (hbox) ((by rw [hg]; exact (Ym QB) : w.heap.size ≤ gb101)) ((by rw [hg]; exact (Ym QB) : w.heap.size ≤ gb101)); clear HB; obtain ⟨HB, BK101, GW101, GE101⟩ := n_; clear hb hbox hg; obtain ⟨hcz12_0, hcz12_1, hcz12_2, hcz12_3, hfz12_0, hfz12_1, hfz12_2, hfz12_3⟩ := YA BK101.out; have p102 : 0 ≤ (0 : Int) := (by omega); have q102 : 0 < (l0_3.length : Int) := of_decide_eq_true Z8; obtain ⟨ad102, A102_2, c102_2, A102_3, c102_3, e102, hx102_0, hx102_1, hx102_2, hx102_3, hl102_2, hi102_2, hl102_3, hi102_3⟩ := Y2r HR0_3.out 0 p102 q102; cases e102; have qi102 : (0 < l0_3.length) = True := eq_true (by omega); (try rw [show ((0 : Int)).toNat = 0 from rfl] at hx102_0 hx102_1 hx102_2 hx102_3); (try rw [show 0 * 4 = 0 from rfl] at hx102_0 hx102_1 hx102_2 hx102_3); (try rw [Addr.add_zero'] at hx102_0 hx102_1 hx102_2 hx102_3); replace hx102_0 := Y18 HB.out hx102_0; replace hx102_1 := Y18 HB.out hx102_1; replace hx102_2 := Y18 HB.out hx102_2; replace hx102_3 := Y18 HB.out hx102_3; have HR102_2 := Y0.mk hi102_2; have HC102_2 := Y0.mk hl102_2; clear hi102_2 hl102_2; have HR102_3 := Y0.mk hi102_3; have HC102_3 := Y0.mk hl102_3; clear hi102_3 hl102_3; replace p102 := eq_true p102; replace q102 := eq_true q102) | ((with_reducible refine Yn (f := 50) rfl ?_); refine YO (some 17) rfl rfl Tryd.func50 Z6 rfl #[.agg #[.int .i64 ((Yk l0_3 0).f0), .string ((Yk l0_3 0).f1), .slice A102_2 ((Yk l0_3 0).f2).length c102_2, .slice A102_3 ((Yk l0_3 0).f3).length c102_3]] rfl Z0 ?_; (with_reducible refine ((ih k (by omega)).2 ((Yk l0_3 0).f0) ((Yk l0_3 0).f1) _ _ ((Yk l0_3 0).f2) _ _ ((Yk l0_3 0).f3) t103 _ ?side1 ?side2 ?side3 ?side4 A9.out).mono ?_); (case side1 => repeat (first | exact (Kd.C_below HR102_2.out HB.out) | (with_reducible refine Kd.C_alloc ?_ _) | (with_reducible refine Kd.C_drewN ?_ _) | (with_reducible refine Kd.C_drew ?_))); (case side2 => exact HC102_2.out); (case side3 => repeat (first | exact (Kd.C_below HR102_3.out HB.out) | (with_reducible refine Kd.C_alloc ?_ _) | (with_reducible refine Kd.C_drewN ?_ _) | (with_reducible refine Kd.C_drew ?_))); (case side4 => exact HC102_3.out); rintro e w13 ⟨rfl, hb⟩; refine ⟨_, rfl, ?_⟩; have n_ := Y2F (Yu (g := gb101) (o := .cells #[.int .i64 a0_0, .string a0_1, .slice A0_2 l0_2.length c0_2, .slice (some ad102) l0_3.length c0_3] 37 (0, 0)) QQ hb) (Yb QB hb); clear BK101 HB; obtain ⟨BK101, HB⟩ := n_; (try clear hb); (try clear hb2); (try clear hk); (try clear hi)))
     go_ret
     exact Z2d
    ·rw [if_neg c10] at H
     exact ZA
   ·rw [if_neg c8] at H
    exact ZA
  ·rw [if_neg c7] at H
   have c7b0 : (a0_0 == 2) = false := beq_eq_false_iff_ne.mpr c7
   have c7b1 : (a0_0 != 2) = true := bne_iff_ne.mpr c7
   by_cases c14 : a0_0 = 3
   ·rw [if_pos c14] at H
    have c14b0 : (a0_0 == 3) = true := beq_iff_eq.mpr c14
    have c14b1 : (a0_0 != 3) = false := bne_eq_false_iff_eq.mpr c14
    clear c14
    by_cases c15 : 0 < (l0_3.length : Int)
    ·rw [if_pos c15] at H
     have c15b0 : decide (0 < (l0_3.length : Int)) = true := decide_eq_true c15
     have c15b1 : decide (0 < l0_3.length) = true := decide_eq_true (by omega)
     clear c15
     replace H := Option.bind_eq_some_iff.mp H
     obtain ⟨t105, A160, H⟩ := H
     replace H : (if t105.size + 1 ≤ 9223372036854775807 then (if 1 < (l0_3.length : Int) then ((YK.f k ((Yk l0_3 1).f0) ((Yk l0_3 1).f1) ((Yk l0_3 1).f2) ((Yk l0_3 1).f3)).bind fun t107 => (if t105.size + 1 + t107.size ≤ 9223372036854775807 then (some ((t105 ++ (⟨#[47]⟩ : ByteArray)) ++ t107)) else (none))) else (none)) else (none)) = some r := H
     have A16 := Y0.mk A160
     clear A160
     by_cases c17 : t105.size + 1 ≤ 9223372036854775807
     ·rw [if_pos c17] at H
      have c17b0 := eq_true c17
      have c17b1 : decide (t105.size + 1 ≤ 9223372036854775807) = true := decide_eq_true c17
      try have c17b2 : (9223372036854775807 < t105.size + 1) = False := eq_false (Nat.not_lt.2 c17)
      by_cases c18 : 1 < (l0_3.length : Int)
      ·rw [if_pos c18] at H
       have c18b0 : decide (1 < (l0_3.length : Int)) = true := decide_eq_true c18
       have c18b1 : decide (1 < l0_3.length) = true := decide_eq_true (by omega)
       clear c18
       replace H := Option.bind_eq_some_iff.mp H
       obtain ⟨t107, A190, H⟩ := H
       replace H : (if t105.size + 1 + t107.size ≤ 9223372036854775807 then (some ((t105 ++ (⟨#[47]⟩ : ByteArray)) ++ t107)) else (none)) = some r := H
       have A19 := Y0.mk A190
       clear A190
       by_cases c20 : t105.size + 1 + t107.size ≤ 9223372036854775807
       ·rw [if_pos c20] at H
        have c20b0 := eq_true c20
        have c20b1 : decide (t105.size + 1 + t107.size ≤ 9223372036854775807) = true := decide_eq_true c20
        try have c20b2 : (9223372036854775807 < t105.size + 1 + t107.size) = False := eq_false (Nat.not_lt.2 c20)
        obtain rfl := Option.some.inj H
        go_enter Tryd.func24, Tryd.ntmps24
        try go_wp2_with (first | ((with_reducible refine YF (N := 1) rfl ?_); refine YE ?hg (N := 1) ?hd (cs := #[.int .i64 a0_0, .string a0_1, .slice A0_2 l0_2.length c0_2, .slice A0_3 l0_3.length c0_3]) (t := 37) ?hr ?_; (case hd => rfl); (case hg => rfl); (case hr => exact Za); intro gb101 hg w21 hbox hb; have n_ := Y31 (Yb QB hb) (hbox) ((by rw [hg]; exact (Ym QB) : w.heap.size ≤ gb101)) ((by rw [hg]; exact (Ym QB) : w.heap.size ≤ gb101)); clear HB; obtain ⟨HB, BK101, GW101, GE101⟩ := n_; clear hb hbox hg; obtain ⟨hcz22_0, hcz22_1, hcz22_2, hcz22_3, hfz22_0, hfz22_1, hfz22_2, hfz22_3⟩ := YA BK101.out))
        have n_ := Y2F (Ya BK101.out) (YP HB.out)
        clear BK101
        clear HB
        obtain ⟨BK101, HB⟩ := n_
        have p104 : 0 ≤ (0 : Int) := (by omega)
        have q104 : 0 < (l0_3.length : Int) := of_decide_eq_true Z8
        obtain ⟨ad104, A104_2, c104_2, A104_3, c104_3, e104, hx104_0, hx104_1, hx104_2, hx104_3, hl104_2, hi104_2, hl104_3, hi104_3⟩ := Y2r HR0_3.out 0 p104 q104
        have hw104_3 := hx104_3
        (try rw [show ((0 : Int)).toNat = 0 from rfl] at hw104_3)
        (try rw [show 0 * 4 = 0 from rfl] at hw104_3)
        (try rw [Addr.add_zero'] at hw104_3)
        have hw104_2 := hx104_2
        (try rw [show ((0 : Int)).toNat = 0 from rfl] at hw104_2)
        (try rw [show 0 * 4 = 0 from rfl] at hw104_2)
        (try rw [Addr.add_zero'] at hw104_2)
        have hw104_1 := hx104_1
        (try rw [show ((0 : Int)).toNat = 0 from rfl] at hw104_1)
        (try rw [show 0 * 4 = 0 from rfl] at hw104_1)
        (try rw [Addr.add_zero'] at hw104_1)
        have hw104_0 := hx104_0
        (try rw [show ((0 : Int)).toNat = 0 from rfl] at hw104_0)
        (try rw [show 0 * 4 = 0 from rfl] at hw104_0)
        (try rw [Addr.add_zero'] at hw104_0)
        cases e104
        have qi104 : (0 < l0_3.length) = True := eq_true (by omega)
        (try rw [show ((0 : Int)).toNat = 0 from rfl] at hx104_0)
        (try rw [show 0 * 4 = 0 from rfl] at hx104_0)
        (try rw [Addr.add_zero'] at hx104_0)
        (try rw [show ((0 : Int)).toNat = 0 from rfl] at hx104_1)
        (try rw [show 0 * 4 = 0 from rfl] at hx104_1)
        (try rw [Addr.add_zero'] at hx104_1)
        (try rw [show ((0 : Int)).toNat = 0 from rfl] at hx104_2)
        (try rw [show 0 * 4 = 0 from rfl] at hx104_2)
        (try rw [Addr.add_zero'] at hx104_2)
        (try rw [show ((0 : Int)).toNat = 0 from rfl] at hx104_3)
        (try rw [show 0 * 4 = 0 from rfl] at hx104_3)
        (try rw [Addr.add_zero'] at hx104_3)
        replace hx104_0 := Y18 HB.out hx104_0
        replace hx104_1 := Y18 HB.out hx104_1
        replace hx104_2 := Y18 HB.out hx104_2
        replace hx104_3 := Y18 HB.out hx104_3
        have HR104_2 := Y0.mk hi104_2
        have HC104_2 := Y0.mk hl104_2
        clear hi104_2 hl104_2
        have HR104_3 := Y0.mk hi104_3
        have HC104_3 := Y0.mk hl104_3
        clear hi104_3 hl104_3
        replace p104 := eq_true p104
        replace q104 := eq_true q104
        have p106 : 0 ≤ (1 : Int) := (by omega)
        have q106 : 1 < (l0_3.length : Int) := of_decide_eq_true Z8
        obtain ⟨ad106, A106_2, c106_2, A106_3, c106_3, e106, hx106_0, hx106_1, hx106_2, hx106_3, hl106_2, hi106_2, hl106_3, hi106_3⟩ := Y2r HR0_3.out 1 p106 q106
        have hw106_3 := hx106_3
        (try rw [show ((1 : Int)).toNat = 1 from rfl] at hw106_3)
        (try rw [show 1 * 4 = 4 from rfl] at hw106_3)
        (try simp only [Nat.reduceMul, Nat.reduceEqDiff, Go.Addr.add, ↓reduceIte] at hw106_3)
        have hw106_2 := hx106_2
        (try rw [show ((1 : Int)).toNat = 1 from rfl] at hw106_2)
        (try rw [show 1 * 4 = 4 from rfl] at hw106_2)
        (try simp only [Nat.reduceMul, Nat.reduceEqDiff, Go.Addr.add, ↓reduceIte] at hw106_2)
        have hw106_1 := hx106_1
        (try rw [show ((1 : Int)).toNat = 1 from rfl] at hw106_1)
        (try rw [show 1 * 4 = 4 from rfl] at hw106_1)
        (try simp only [Nat.reduceMul, Nat.reduceEqDiff, Go.Addr.add, ↓reduceIte] at hw106_1)
        have hw106_0 := hx106_0
        (try rw [show ((1 : Int)).toNat = 1 from rfl] at hw106_0)
        (try rw [show 1 * 4 = 4 from rfl] at hw106_0)
        (try simp only [Nat.reduceMul, Nat.reduceEqDiff, Go.Addr.add, ↓reduceIte] at hw106_0)
        obtain rfl : ad104 = ad106 := (by injection e106)
        (try simp only [show (1 : Int).toNat = 1 from rfl, Nat.reduceMul, Nat.reduceEqDiff, Go.Addr.add, ↓reduceIte] at hx106_0)
        (try simp only [show (1 : Int).toNat = 1 from rfl, Nat.reduceMul, Nat.reduceEqDiff, Go.Addr.add, ↓reduceIte] at hx106_1)
        (try simp only [show (1 : Int).toNat = 1 from rfl, Nat.reduceMul, Nat.reduceEqDiff, Go.Addr.add, ↓reduceIte] at hx106_2)
        (try simp only [show (1 : Int).toNat = 1 from rfl, Nat.reduceMul, Nat.reduceEqDiff, Go.Addr.add, ↓reduceIte] at hx106_3)
        have qi106 : (1 < l0_3.length) = True := eq_true (by omega)
        (try rw [show ((1 : Int)).toNat = 1 from rfl] at hx106_0)
        (try rw [show 1 * 4 = 4 from rfl] at hx106_0)
        (try rw [show ((1 : Int)).toNat = 1 from rfl] at hx106_1)
        (try rw [show 1 * 4 = 4 from rfl] at hx106_1)
        (try rw [show ((1 : Int)).toNat = 1 from rfl] at hx106_2)
        (try rw [show 1 * 4 = 4 from rfl] at hx106_2)
        (try rw [show ((1 : Int)).toNat = 1 from rfl] at hx106_3)
        (try rw [show 1 * 4 = 4 from rfl] at hx106_3)
        replace hx106_0 := Y18 HB.out hx106_0
        replace hx106_1 := Y18 HB.out hx106_1
        replace hx106_2 := Y18 HB.out hx106_2
        replace hx106_3 := Y18 HB.out hx106_3
        have HR106_2 := Y0.mk hi106_2
        have HC106_2 := Y0.mk hl106_2
        clear hi106_2 hl106_2
        have HR106_3 := Y0.mk hi106_3
        have HC106_3 := Y0.mk hl106_3
        clear hi106_3 hl106_3
        replace p106 := eq_true p106
        replace q106 := eq_true q106
        refine Y1l (n := 13) (S := fun w' => w'.cell? ⟨gb101, 0, none⟩ = some (.int .i64 a0_0) ∧ w'.cell? ⟨gb101, 1, none⟩ = some (.string a0_1) ∧ w'.cell? ⟨gb101, 2, none⟩ = some (.slice A0_2 l0_2.length c0_2) ∧ w'.cell? ⟨gb101, 3, none⟩ = some (.slice (some ad104) l0_3.length c0_3) ∧ w'.cell? ad104 = some (.int .i64 ((Yk l0_3 0).f0)) ∧ w'.cell? ⟨ad104.block, ad104.off + 1, none⟩ = some (.string ((Yk l0_3 0).f1)) ∧ w'.cell? ⟨ad104.block, ad104.off + 2, none⟩ = some (.slice A104_2 ((Yk l0_3 0).f2).length c104_2) ∧ w'.cell? ⟨ad104.block, ad104.off + 3, none⟩ = some (.slice A104_3 ((Yk l0_3 0).f3).length c104_3) ∧ w'.cell? ⟨ad104.block, ad104.off + 4, none⟩ = some (.int .i64 ((Yk l0_3 1).f0)) ∧ w'.cell? ⟨ad104.block, ad104.off + 4 + 1, none⟩ = some (.string ((Yk l0_3 1).f1)) ∧ w'.cell? ⟨ad104.block, ad104.off + 4 + 2, none⟩ = some (.slice A106_2 ((Yk l0_3 1).f2).length c106_2) ∧ w'.cell? ⟨ad104.block, ad104.off + 4 + 3, none⟩ = some (.slice A106_3 ((Yk l0_3 1).f3).length c106_3)) (ds := []) bz13_0 Z6 rfl rfl ⟨(Y2 BK101.out 0).trans rfl, (Y2 BK101.out 1).trans rfl, (Y2 BK101.out 2).trans rfl, (Y2 BK101.out 3).trans rfl, ((HB.out.cell (World.block_lt_of_cell? w _ hw104_0)).trans hw104_0), ((HB.out.cell (World.block_lt_of_cell? w _ hw104_1)).trans hw104_1), ((HB.out.cell (World.block_lt_of_cell? w _ hw104_2)).trans hw104_2), ((HB.out.cell (World.block_lt_of_cell? w _ hw104_3)).trans hw104_3), ((HB.out.cell (World.block_lt_of_cell? w _ hw106_0)).trans hw106_0), ((HB.out.cell (World.block_lt_of_cell? w _ hw106_1)).trans hw106_1), ((HB.out.cell (World.block_lt_of_cell? w _ hw106_2)).trans hw106_2), ((HB.out.cell (World.block_lt_of_cell? w _ hw106_3)).trans hw106_3)⟩ (fun hHeld => ?_); refine YW YH.tab7 YH.bits7 (fun HT_ HW_ => ?_)
        generalize w21.drew = w23 at BK101 HB HR104_2 HR104_3 HR106_2 HR106_3 hx104_0 hx104_1 hx104_2 hx104_3 hx106_0 hx106_1 hx106_2 hx106_3 hHeld ⊢
        refine pY 0 21 bz13_1 ?_
        refine pY 6 27 bz13_41 ?_
        refine pT 1 22 bz13_43 ?_
        refine pY 2 23 bz13_47 ?_
        refine pT 3 24 bz13_4f ?_
        refine pT 7 28 bz13_cf ?_
        refine pY 8 29 Y6e ?_
        refine pT 9 30 Y6f ?_
        refine Y2T (i := 4) (N := some 25) Y6g rfl rfl (Y1j HT_.out Z6) (by decide) (fun K hK => ?_)
        refine Y21 Tryd.func50 Z6 rfl #[.agg #[.int .i64 ((Yk l0_3 0).f0), .string ((Yk l0_3 0).f1), .slice A104_2 ((Yk l0_3 0).f2).length c104_2, .slice A104_3 ((Yk l0_3 0).f3).length c104_3]] (by rfl) rfl rfl Z0 ?_
        with_reducible refine ((ih k (by omega)).2 ((Yk l0_3 0).f0) ((Yk l0_3 0).f1) _ _ ((Yk l0_3 0).f2) _ _ ((Yk l0_3 0).f3) t105 _ ?side1 ?side2 ?side3 ?side4 A16.out).mono ?_
        (case side1 => repeat (first | exact (Kd.C_below HR104_2.out HB.out) | (with_reducible refine Kd.C_alloc ?_ _) | (with_reducible refine Kd.C_drewN ?_ _) | (with_reducible refine Kd.C_drew ?_)))
        (case side2 => exact HC104_2.out)
        (case side3 => repeat (first | exact (Kd.C_below HR104_3.out HB.out) | (with_reducible refine Kd.C_alloc ?_ _) | (with_reducible refine Kd.C_drewN ?_ _) | (with_reducible refine Kd.C_drew ?_)))
        (case side4 => exact HC104_3.out)
        rintro e w24 ⟨rfl, hb⟩
        refine ⟨_, rfl, ?_⟩
        have n_ := Y2F (Yu (g := gb101) (o := .cells #[.int .i64 a0_0, .string a0_1, .slice A0_2 l0_2.length c0_2, .slice (some ad104) l0_3.length c0_3] 37 (0, 0)) QQ hb) (Yb QB hb)
        clear BK101
        clear HB
        obtain ⟨BK101, HB⟩ := n_
        (try clear hb)
        (try clear hb2)
        (try clear hk)
        (try clear hi)
        refine hK.out _ _ ⟨(Y2 BK101.out 0).trans rfl, (Y2 BK101.out 1).trans rfl, (Y2 BK101.out 2).trans rfl, (Y2 BK101.out 3).trans rfl, ((HB.out.cell (World.block_lt_of_cell? w _ hw104_0)).trans hw104_0), ((HB.out.cell (World.block_lt_of_cell? w _ hw104_1)).trans hw104_1), ((HB.out.cell (World.block_lt_of_cell? w _ hw104_2)).trans hw104_2), ((HB.out.cell (World.block_lt_of_cell? w _ hw104_3)).trans hw104_3), ((HB.out.cell (World.block_lt_of_cell? w _ hw106_0)).trans hw106_0), ((HB.out.cell (World.block_lt_of_cell? w _ hw106_1)).trans hw106_1), ((HB.out.cell (World.block_lt_of_cell? w _ hw106_2)).trans hw106_2), ((HB.out.cell (World.block_lt_of_cell? w _ hw106_3)).trans hw106_3)⟩ (fun hHeld => ?_)
        clear hK K
        refine Y1H (a' := ?_) ?_ ?_
        rotate_left
        ·show Act.put _ (some 25) _ = _
         simp only [Act.put, List.setIfInBounds_toArray, List.set_cons_zero, List.set_cons_succ, Y16, Y17]
         rfl
        refine pY 5 26 Y6h ?_
        refine Y2T (i := 10) (N := some 31) Y6i rfl rfl (Y1j HT_.out Z6) (by decide) (fun K hK => ?_)
        refine Y21 Tryd.func50 Z6 rfl #[.agg #[.int .i64 ((Yk l0_3 1).f0), .string ((Yk l0_3 1).f1), .slice A106_2 ((Yk l0_3 1).f2).length c106_2, .slice A106_3 ((Yk l0_3 1).f3).length c106_3]] (by rfl) rfl rfl Z0 ?_
        with_reducible refine ((ih k (by omega)).2 ((Yk l0_3 1).f0) ((Yk l0_3 1).f1) _ _ ((Yk l0_3 1).f2) _ _ ((Yk l0_3 1).f3) t107 _ ?side1 ?side2 ?side3 ?side4 A19.out).mono ?_
        (case side1 => exact ZF)
        (case side2 => exact HC106_2.out)
        (case side3 => exact ZG)
        (case side4 => exact HC106_3.out)
        rintro e w25 ⟨rfl, hb⟩
        refine ⟨_, rfl, ?_⟩
        have n_ := Y2F (Yu (g := gb101) (o := .cells #[.int .i64 a0_0, .string a0_1, .slice A0_2 l0_2.length c0_2, .slice (some ad104) l0_3.length c0_3] 37 (0, 0)) QQ hb) (Yb QB hb)
        clear BK101
        clear HB
        obtain ⟨BK101, HB⟩ := n_
        (try clear hb)
        (try clear hb2)
        (try clear hk)
        (try clear hi)
        refine hK.out _ _ ⟨(Y2 BK101.out 0).trans rfl, (Y2 BK101.out 1).trans rfl, (Y2 BK101.out 2).trans rfl, (Y2 BK101.out 3).trans rfl, ((HB.out.cell (World.block_lt_of_cell? w _ hw104_0)).trans hw104_0), ((HB.out.cell (World.block_lt_of_cell? w _ hw104_1)).trans hw104_1), ((HB.out.cell (World.block_lt_of_cell? w _ hw104_2)).trans hw104_2), ((HB.out.cell (World.block_lt_of_cell? w _ hw104_3)).trans hw104_3), ((HB.out.cell (World.block_lt_of_cell? w _ hw106_0)).trans hw106_0), ((HB.out.cell (World.block_lt_of_cell? w _ hw106_1)).trans hw106_1), ((HB.out.cell (World.block_lt_of_cell? w _ hw106_2)).trans hw106_2), ((HB.out.cell (World.block_lt_of_cell? w _ hw106_3)).trans hw106_3)⟩ (fun hHeld => ?_)
        clear hK K
        refine Y1H (a' := ?_) ?_ ?_
        rotate_left
        ·show Act.put _ (some 31) _ = _
         simp only [Act.put, List.setIfInBounds_toArray, List.set_cons_zero, List.set_cons_succ, Y16, Y17]
         rfl
        refine pY 11 32 Y6j ?_
        refine pY 12 2 Y5A ?_
        refine Y1Q (Y1a HT_.out Z6) ?_
        try go_wp2
        go_ret
        exact Z2d
       ·rw [if_neg c20] at H
        exact ZA
      ·rw [if_neg c18] at H
       exact ZA
     ·rw [if_neg c17] at H
      exact ZA
    ·rw [if_neg c15] at H
     exact ZA
   ·rw [if_neg c14] at H
    have c14b0 : (a0_0 == 3) = false := beq_eq_false_iff_ne.mpr c14
    have c14b1 : (a0_0 != 3) = true := bne_iff_ne.mpr c14
    by_cases c26 : a0_0 = 4
    ·rw [if_pos c26] at H
     have c26b0 : (a0_0 == 4) = true := beq_iff_eq.mpr c26
     have c26b1 : (a0_0 != 4) = false := bne_eq_false_iff_eq.mpr c26
     clear c26
     by_cases c27 : 0 < (l0_3.length : Int)
     ·rw [if_pos c27] at H
      have c27b0 : decide (0 < (l0_3.length : Int)) = true := decide_eq_true c27
      have c27b1 : decide (0 < l0_3.length) = true := decide_eq_true (by omega)
      clear c27
      replace H := Option.bind_eq_some_iff.mp H
      obtain ⟨t109, A280, H⟩ := H
      replace H : (if t109.size + 1 ≤ 9223372036854775807 then (if 1 < (l0_3.length : Int) then ((YK.f k ((Yk l0_3 1).f0) ((Yk l0_3 1).f1) ((Yk l0_3 1).f2) ((Yk l0_3 1).f3)).bind fun t111 => (if t109.size + 1 + t111.size ≤ 9223372036854775807 then (some ((t109 ++ (⟨#[124]⟩ : ByteArray)) ++ t111)) else (none))) else (none)) else (none)) = some r := H
      have A28 := Y0.mk A280
      clear A280
      by_cases c29 : t109.size + 1 ≤ 9223372036854775807
      ·rw [if_pos c29] at H
       have c29b0 := eq_true c29
       have c29b1 : decide (t109.size + 1 ≤ 9223372036854775807) = true := decide_eq_true c29
       try have c29b2 : (9223372036854775807 < t109.size + 1) = False := eq_false (Nat.not_lt.2 c29)
       by_cases c30 : 1 < (l0_3.length : Int)
       ·rw [if_pos c30] at H
        have c30b0 : decide (1 < (l0_3.length : Int)) = true := decide_eq_true c30
        have c30b1 : decide (1 < l0_3.length) = true := decide_eq_true (by omega)
        clear c30
        replace H := Option.bind_eq_some_iff.mp H
        obtain ⟨t111, A310, H⟩ := H
        replace H : (if t109.size + 1 + t111.size ≤ 9223372036854775807 then (some ((t109 ++ (⟨#[124]⟩ : ByteArray)) ++ t111)) else (none)) = some r := H
        have A31 := Y0.mk A310
        clear A310
        by_cases c32 : t109.size + 1 + t111.size ≤ 9223372036854775807
        ·rw [if_pos c32] at H
         have c32b0 := eq_true c32
         have c32b1 : decide (t109.size + 1 + t111.size ≤ 9223372036854775807) = true := decide_eq_true c32
         try have c32b2 : (9223372036854775807 < t109.size + 1 + t111.size) = False := eq_false (Nat.not_lt.2 c32)
         obtain rfl := Option.some.inj H
         go_enter Tryd.func24, Tryd.ntmps24
         try go_wp2_with (first | ((with_reducible refine YF (N := 1) rfl ?_); refine YE ?hg (N := 1) ?hd (cs := #[.int .i64 a0_0, .string a0_1, .slice A0_2 l0_2.length c0_2, .slice A0_3 l0_3.length c0_3]) (t := 37) ?hr ?_; (case hd => rfl); (case hg => rfl); (case hr => exact Za); intro gb101 hg w33 hbox hb; have n_ := Y31 (Yb QB hb) (hbox) ((by rw [hg]; exact (Ym QB) : w.heap.size ≤ gb101)) ((by rw [hg]; exact (Ym QB) : w.heap.size ≤ gb101)); clear HB; obtain ⟨HB, BK101, GW101, GE101⟩ := n_; clear hb hbox hg; obtain ⟨hcz34_0, hcz34_1, hcz34_2, hcz34_3, hfz34_0, hfz34_1, hfz34_2, hfz34_3⟩ := YA BK101.out))
         have n_ := Y2F (Ya BK101.out) (YP HB.out)
         clear BK101
         clear HB
         obtain ⟨BK101, HB⟩ := n_
         have p108 : 0 ≤ (0 : Int) := (by omega)
         have q108 : 0 < (l0_3.length : Int) := of_decide_eq_true Z8
         obtain ⟨ad108, A108_2, c108_2, A108_3, c108_3, e108, hx108_0, hx108_1, hx108_2, hx108_3, hl108_2, hi108_2, hl108_3, hi108_3⟩ := Y2r HR0_3.out 0 p108 q108
         have hw108_3 := hx108_3
         (try rw [show ((0 : Int)).toNat = 0 from rfl] at hw108_3)
         (try rw [show 0 * 4 = 0 from rfl] at hw108_3)
         (try rw [Addr.add_zero'] at hw108_3)
         have hw108_2 := hx108_2
         (try rw [show ((0 : Int)).toNat = 0 from rfl] at hw108_2)
         (try rw [show 0 * 4 = 0 from rfl] at hw108_2)
         (try rw [Addr.add_zero'] at hw108_2)
         have hw108_1 := hx108_1
         (try rw [show ((0 : Int)).toNat = 0 from rfl] at hw108_1)
         (try rw [show 0 * 4 = 0 from rfl] at hw108_1)
         (try rw [Addr.add_zero'] at hw108_1)
         have hw108_0 := hx108_0
         (try rw [show ((0 : Int)).toNat = 0 from rfl] at hw108_0)
         (try rw [show 0 * 4 = 0 from rfl] at hw108_0)
         (try rw [Addr.add_zero'] at hw108_0)
         cases e108
         have qi108 : (0 < l0_3.length) = True := eq_true (by omega)
         (try rw [show ((0 : Int)).toNat = 0 from rfl] at hx108_0)
         (try rw [show 0 * 4 = 0 from rfl] at hx108_0)
         (try rw [Addr.add_zero'] at hx108_0)
         (try rw [show ((0 : Int)).toNat = 0 from rfl] at hx108_1)
         (try rw [show 0 * 4 = 0 from rfl] at hx108_1)
         (try rw [Addr.add_zero'] at hx108_1)
         (try rw [show ((0 : Int)).toNat = 0 from rfl] at hx108_2)
         (try rw [show 0 * 4 = 0 from rfl] at hx108_2)
         (try rw [Addr.add_zero'] at hx108_2)
         (try rw [show ((0 : Int)).toNat = 0 from rfl] at hx108_3)
         (try rw [show 0 * 4 = 0 from rfl] at hx108_3)
         (try rw [Addr.add_zero'] at hx108_3)
         replace hx108_0 := Y18 HB.out hx108_0
         replace hx108_1 := Y18 HB.out hx108_1
         replace hx108_2 := Y18 HB.out hx108_2
         replace hx108_3 := Y18 HB.out hx108_3
         have HR108_2 := Y0.mk hi108_2
         have HC108_2 := Y0.mk hl108_2
         clear hi108_2 hl108_2
         have HR108_3 := Y0.mk hi108_3
         have HC108_3 := Y0.mk hl108_3
         clear hi108_3 hl108_3
         replace p108 := eq_true p108
         replace q108 := eq_true q108
         have p110 : 0 ≤ (1 : Int) := (by omega)
         have q110 : 1 < (l0_3.length : Int) := of_decide_eq_true Z8
         obtain ⟨ad110, A110_2, c110_2, A110_3, c110_3, e110, hx110_0, hx110_1, hx110_2, hx110_3, hl110_2, hi110_2, hl110_3, hi110_3⟩ := Y2r HR0_3.out 1 p110 q110
         have hw110_3 := hx110_3
         (try rw [show ((1 : Int)).toNat = 1 from rfl] at hw110_3)
         (try rw [show 1 * 4 = 4 from rfl] at hw110_3)
         (try simp only [Nat.reduceMul, Nat.reduceEqDiff, Go.Addr.add, ↓reduceIte] at hw110_3)
         have hw110_2 := hx110_2
         (try rw [show ((1 : Int)).toNat = 1 from rfl] at hw110_2)
         (try rw [show 1 * 4 = 4 from rfl] at hw110_2)
         (try simp only [Nat.reduceMul, Nat.reduceEqDiff, Go.Addr.add, ↓reduceIte] at hw110_2)
         have hw110_1 := hx110_1
         (try rw [show ((1 : Int)).toNat = 1 from rfl] at hw110_1)
         (try rw [show 1 * 4 = 4 from rfl] at hw110_1)
         (try simp only [Nat.reduceMul, Nat.reduceEqDiff, Go.Addr.add, ↓reduceIte] at hw110_1)
         have hw110_0 := hx110_0
         (try rw [show ((1 : Int)).toNat = 1 from rfl] at hw110_0)
         (try rw [show 1 * 4 = 4 from rfl] at hw110_0)
         (try simp only [Nat.reduceMul, Nat.reduceEqDiff, Go.Addr.add, ↓reduceIte] at hw110_0)
         obtain rfl : ad108 = ad110 := (by injection e110)
         (try simp only [show (1 : Int).toNat = 1 from rfl, Nat.reduceMul, Nat.reduceEqDiff, Go.Addr.add, ↓reduceIte] at hx110_0)
         (try simp only [show (1 : Int).toNat = 1 from rfl, Nat.reduceMul, Nat.reduceEqDiff, Go.Addr.add, ↓reduceIte] at hx110_1)
         (try simp only [show (1 : Int).toNat = 1 from rfl, Nat.reduceMul, Nat.reduceEqDiff, Go.Addr.add, ↓reduceIte] at hx110_2)
         (try simp only [show (1 : Int).toNat = 1 from rfl, Nat.reduceMul, Nat.reduceEqDiff, Go.Addr.add, ↓reduceIte] at hx110_3)
         have qi110 : (1 < l0_3.length) = True := eq_true (by omega)
         (try rw [show ((1 : Int)).toNat = 1 from rfl] at hx110_0)
         (try rw [show 1 * 4 = 4 from rfl] at hx110_0)
         (try rw [show ((1 : Int)).toNat = 1 from rfl] at hx110_1)
         (try rw [show 1 * 4 = 4 from rfl] at hx110_1)
         (try rw [show ((1 : Int)).toNat = 1 from rfl] at hx110_2)
         (try rw [show 1 * 4 = 4 from rfl] at hx110_2)
         (try rw [show ((1 : Int)).toNat = 1 from rfl] at hx110_3)
         (try rw [show 1 * 4 = 4 from rfl] at hx110_3)
         replace hx110_0 := Y18 HB.out hx110_0
         replace hx110_1 := Y18 HB.out hx110_1
         replace hx110_2 := Y18 HB.out hx110_2
         replace hx110_3 := Y18 HB.out hx110_3
         have HR110_2 := Y0.mk hi110_2
         have HC110_2 := Y0.mk hl110_2
         clear hi110_2 hl110_2
         have HR110_3 := Y0.mk hi110_3
         have HC110_3 := Y0.mk hl110_3
         clear hi110_3 hl110_3
         replace p110 := eq_true p110
         replace q110 := eq_true q110
         refine Y1l (n := 13) (S := fun w' => w'.cell? ⟨gb101, 0, none⟩ = some (.int .i64 a0_0) ∧ w'.cell? ⟨gb101, 1, none⟩ = some (.string a0_1) ∧ w'.cell? ⟨gb101, 2, none⟩ = some (.slice A0_2 l0_2.length c0_2) ∧ w'.cell? ⟨gb101, 3, none⟩ = some (.slice (some ad108) l0_3.length c0_3) ∧ w'.cell? ad108 = some (.int .i64 ((Yk l0_3 0).f0)) ∧ w'.cell? ⟨ad108.block, ad108.off + 1, none⟩ = some (.string ((Yk l0_3 0).f1)) ∧ w'.cell? ⟨ad108.block, ad108.off + 2, none⟩ = some (.slice A108_2 ((Yk l0_3 0).f2).length c108_2) ∧ w'.cell? ⟨ad108.block, ad108.off + 3, none⟩ = some (.slice A108_3 ((Yk l0_3 0).f3).length c108_3) ∧ w'.cell? ⟨ad108.block, ad108.off + 4, none⟩ = some (.int .i64 ((Yk l0_3 1).f0)) ∧ w'.cell? ⟨ad108.block, ad108.off + 4 + 1, none⟩ = some (.string ((Yk l0_3 1).f1)) ∧ w'.cell? ⟨ad108.block, ad108.off + 4 + 2, none⟩ = some (.slice A110_2 ((Yk l0_3 1).f2).length c110_2) ∧ w'.cell? ⟨ad108.block, ad108.off + 4 + 3, none⟩ = some (.slice A110_3 ((Yk l0_3 1).f3).length c110_3)) (ds := []) bz13_0 Z6 rfl rfl ⟨(Y2 BK101.out 0).trans rfl, (Y2 BK101.out 1).trans rfl, (Y2 BK101.out 2).trans rfl, (Y2 BK101.out 3).trans rfl, ((HB.out.cell (World.block_lt_of_cell? w _ hw108_0)).trans hw108_0), ((HB.out.cell (World.block_lt_of_cell? w _ hw108_1)).trans hw108_1), ((HB.out.cell (World.block_lt_of_cell? w _ hw108_2)).trans hw108_2), ((HB.out.cell (World.block_lt_of_cell? w _ hw108_3)).trans hw108_3), ((HB.out.cell (World.block_lt_of_cell? w _ hw110_0)).trans hw110_0), ((HB.out.cell (World.block_lt_of_cell? w _ hw110_1)).trans hw110_1), ((HB.out.cell (World.block_lt_of_cell? w _ hw110_2)).trans hw110_2), ((HB.out.cell (World.block_lt_of_cell? w _ hw110_3)).trans hw110_3)⟩ (fun hHeld => ?_); refine YW YH.tab9 YH.bits9 (fun HT_ HW_ => ?_)
         generalize w33.drew = w35 at BK101 HB HR108_2 HR108_3 HR110_2 HR110_3 hx108_0 hx108_1 hx108_2 hx108_3 hx110_0 hx110_1 hx110_2 hx110_3 hHeld ⊢
         refine pY 0 35 bz13_1 ?_
         refine pY 6 41 bz13_41 ?_
         refine pT 1 36 bz13_43 ?_
         refine pY 2 37 bz13_47 ?_
         refine pT 3 38 bz13_4f ?_
         refine pT 7 42 bz13_cf ?_
         refine pY 8 43 Y6e ?_
         refine pT 9 44 Y6f ?_
         refine Y2T (i := 4) (N := some 39) Y6g rfl rfl (Y1j HT_.out Z6) (by decide) (fun K hK => ?_)
         refine Y21 Tryd.func50 Z6 rfl #[.agg #[.int .i64 ((Yk l0_3 0).f0), .string ((Yk l0_3 0).f1), .slice A108_2 ((Yk l0_3 0).f2).length c108_2, .slice A108_3 ((Yk l0_3 0).f3).length c108_3]] (by rfl) rfl rfl Z0 ?_
         with_reducible refine ((ih k (by omega)).2 ((Yk l0_3 0).f0) ((Yk l0_3 0).f1) _ _ ((Yk l0_3 0).f2) _ _ ((Yk l0_3 0).f3) t109 _ ?side1 ?side2 ?side3 ?side4 A28.out).mono ?_
         (case side1 => repeat (first | exact (Kd.C_below HR108_2.out HB.out) | (with_reducible refine Kd.C_alloc ?_ _) | (with_reducible refine Kd.C_drewN ?_ _) | (with_reducible refine Kd.C_drew ?_)))
         (case side2 => exact HC108_2.out)
         (case side3 => repeat (first | exact (Kd.C_below HR108_3.out HB.out) | (with_reducible refine Kd.C_alloc ?_ _) | (with_reducible refine Kd.C_drewN ?_ _) | (with_reducible refine Kd.C_drew ?_)))
         (case side4 => exact HC108_3.out)
         rintro e w36 ⟨rfl, hb⟩
         refine ⟨_, rfl, ?_⟩
         have n_ := Y2F (Yu (g := gb101) (o := .cells #[.int .i64 a0_0, .string a0_1, .slice A0_2 l0_2.length c0_2, .slice (some ad108) l0_3.length c0_3] 37 (0, 0)) QQ hb) (Yb QB hb)
         clear BK101
         clear HB
         obtain ⟨BK101, HB⟩ := n_
         (try clear hb)
         (try clear hb2)
         (try clear hk)
         (try clear hi)
         refine hK.out _ _ ⟨(Y2 BK101.out 0).trans rfl, (Y2 BK101.out 1).trans rfl, (Y2 BK101.out 2).trans rfl, (Y2 BK101.out 3).trans rfl, ((HB.out.cell (World.block_lt_of_cell? w _ hw108_0)).trans hw108_0), ((HB.out.cell (World.block_lt_of_cell? w _ hw108_1)).trans hw108_1), ((HB.out.cell (World.block_lt_of_cell? w _ hw108_2)).trans hw108_2), ((HB.out.cell (World.block_lt_of_cell? w _ hw108_3)).trans hw108_3), ((HB.out.cell (World.block_lt_of_cell? w _ hw110_0)).trans hw110_0), ((HB.out.cell (World.block_lt_of_cell? w _ hw110_1)).trans hw110_1), ((HB.out.cell (World.block_lt_of_cell? w _ hw110_2)).trans hw110_2), ((HB.out.cell (World.block_lt_of_cell? w _ hw110_3)).trans hw110_3)⟩ (fun hHeld => ?_)
         clear hK K
         refine Y1H (a' := ?_) ?_ ?_
         rotate_left
         ·show Act.put _ (some 39) _ = _
          simp only [Act.put, List.setIfInBounds_toArray, List.set_cons_zero, List.set_cons_succ, Y16, Y17]
          rfl
         refine pY 5 40 Y6h ?_
         refine Y2T (i := 10) (N := some 45) Y6i rfl rfl (Y1j HT_.out Z6) (by decide) (fun K hK => ?_)
         refine Y21 Tryd.func50 Z6 rfl #[.agg #[.int .i64 ((Yk l0_3 1).f0), .string ((Yk l0_3 1).f1), .slice A110_2 ((Yk l0_3 1).f2).length c110_2, .slice A110_3 ((Yk l0_3 1).f3).length c110_3]] (by rfl) rfl rfl Z0 ?_
         with_reducible refine ((ih k (by omega)).2 ((Yk l0_3 1).f0) ((Yk l0_3 1).f1) _ _ ((Yk l0_3 1).f2) _ _ ((Yk l0_3 1).f3) t111 _ ?side1 ?side2 ?side3 ?side4 A31.out).mono ?_
         (case side1 => repeat (first | exact (Kd.C_below HR110_2.out HB.out) | (with_reducible refine Kd.C_alloc ?_ _) | (with_reducible refine Kd.C_drewN ?_ _) | (with_reducible refine Kd.C_drew ?_)))
         (case side2 => exact HC110_2.out)
         (case side3 => repeat (first | exact (Kd.C_below HR110_3.out HB.out) | (with_reducible refine Kd.C_alloc ?_ _) | (with_reducible refine Kd.C_drewN ?_ _) | (with_reducible refine Kd.C_drew ?_)))
         (case side4 => exact HC110_3.out)
         rintro e w37 ⟨rfl, hb⟩
         refine ⟨_, rfl, ?_⟩
         have n_ := Y2F (Yu (g := gb101) (o := .cells #[.int .i64 a0_0, .string a0_1, .slice A0_2 l0_2.length c0_2, .slice (some ad108) l0_3.length c0_3] 37 (0, 0)) QQ hb) (Yb QB hb)
         clear BK101
         clear HB
         obtain ⟨BK101, HB⟩ := n_
         (try clear hb)
         (try clear hb2)
         (try clear hk)
         (try clear hi)
         refine hK.out _ _ ⟨(Y2 BK101.out 0).trans rfl, (Y2 BK101.out 1).trans rfl, (Y2 BK101.out 2).trans rfl, (Y2 BK101.out 3).trans rfl, ((HB.out.cell (World.block_lt_of_cell? w _ hw108_0)).trans hw108_0), ((HB.out.cell (World.block_lt_of_cell? w _ hw108_1)).trans hw108_1), ((HB.out.cell (World.block_lt_of_cell? w _ hw108_2)).trans hw108_2), ((HB.out.cell (World.block_lt_of_cell? w _ hw108_3)).trans hw108_3), ((HB.out.cell (World.block_lt_of_cell? w _ hw110_0)).trans hw110_0), ((HB.out.cell (World.block_lt_of_cell? w _ hw110_1)).trans hw110_1), ((HB.out.cell (World.block_lt_of_cell? w _ hw110_2)).trans hw110_2), ((HB.out.cell (World.block_lt_of_cell? w _ hw110_3)).trans hw110_3)⟩ (fun hHeld => ?_)
         clear hK K
         refine Y1H (a' := ?_) ?_ ?_
         rotate_left
         ·show Act.put _ (some 45) _ = _
          simp only [Act.put, List.setIfInBounds_toArray, List.set_cons_zero, List.set_cons_succ, Y16, Y17]
          rfl
         refine pY 11 46 Y6j ?_
         refine pY 12 2 Y5A ?_
         refine Y1Q (Y1a HT_.out Z6) ?_
         try go_wp2
         go_ret
         exact Z2d
        ·rw [if_neg c32] at H
         exact ZA
       ·rw [if_neg c30] at H
        exact ZA
      ·rw [if_neg c29] at H
       exact ZA
     ·rw [if_neg c27] at H
      exact ZA
    ·rw [if_neg c26] at H
     have c26b0 : (a0_0 == 4) = false := beq_eq_false_iff_ne.mpr c26
     have c26b1 : (a0_0 != 4) = true := bne_iff_ne.mpr c26
     by_cases c38 : a0_0 = 5
     ·rw [if_pos c38] at H
      have c38b0 : (a0_0 == 5) = true := beq_iff_eq.mpr c38
      have c38b1 : (a0_0 != 5) = false := bne_eq_false_iff_eq.mpr c38
      clear c38
      by_cases c39 : 0 < (l0_3.length : Int)
      ·rw [if_pos c39] at H
       have c39b0 : decide (0 < (l0_3.length : Int)) = true := decide_eq_true c39
       have c39b1 : decide (0 < l0_3.length) = true := decide_eq_true (by omega)
       clear c39
       replace H := Option.bind_eq_some_iff.mp H
       obtain ⟨t113, A400, H⟩ := H
       replace H : (if t113.size + 1 ≤ 9223372036854775807 then (some (t113 ++ (⟨#[42]⟩ : ByteArray))) else (none)) = some r := H
       have A40 := Y0.mk A400
       clear A400
       by_cases c41 : t113.size + 1 ≤ 9223372036854775807
       ·rw [if_pos c41] at H
        have c41b0 := eq_true c41
        have c41b1 : decide (t113.size + 1 ≤ 9223372036854775807) = true := decide_eq_true c41
        try have c41b2 : (9223372036854775807 < t113.size + 1) = False := eq_false (Nat.not_lt.2 c41)
        obtain rfl := Option.some.inj H
        go_enter Tryd.func24, Tryd.ntmps24
        go_wp2_with (first | ((with_reducible refine YF (N := 1) rfl ?_); refine YE ?hg (N := 1) ?hd (cs := #[.int .i64 a0_0, .string a0_1, .slice A0_2 l0_2.length c0_2, .slice A0_3 l0_3.length c0_3]) (t := 37) ?hr ?_; (case hd => rfl); (case hg => rfl); (case hr => exact Za); intro gb101 hg w42 hbox hb; have n_ := Y31 (Yb QB hb) (hbox) ((by rw [hg]; exact (Ym QB) : w.heap.size ≤ gb101)) ((by rw [hg]; exact (Ym QB) : w.heap.size ≤ gb101)); clear HB; obtain ⟨HB, BK101, GW101, GE101⟩ := n_; clear hb hbox hg; obtain ⟨hcz43_0, hcz43_1, hcz43_2, hcz43_3, hfz43_0, hfz43_1, hfz43_2, hfz43_3⟩ := YA BK101.out; have p112 : 0 ≤ (0 : Int) := (by omega); have q112 : 0 < (l0_3.length : Int) := of_decide_eq_true Z8; obtain ⟨ad112, A112_2, c112_2, A112_3, c112_3, e112, hx112_0, hx112_1, hx112_2, hx112_3, hl112_2, hi112_2, hl112_3, hi112_3⟩ := Y2r HR0_3.out 0 p112 q112; cases e112; have qi112 : (0 < l0_3.length) = True := eq_true (by omega); (try rw [show ((0 : Int)).toNat = 0 from rfl] at hx112_0 hx112_1 hx112_2 hx112_3); (try rw [show 0 * 4 = 0 from rfl] at hx112_0 hx112_1 hx112_2 hx112_3); (try rw [Addr.add_zero'] at hx112_0 hx112_1 hx112_2 hx112_3); replace hx112_0 := Y18 HB.out hx112_0; replace hx112_1 := Y18 HB.out hx112_1; replace hx112_2 := Y18 HB.out hx112_2; replace hx112_3 := Y18 HB.out hx112_3; have HR112_2 := Y0.mk hi112_2; have HC112_2 := Y0.mk hl112_2; clear hi112_2 hl112_2; have HR112_3 := Y0.mk hi112_3; have HC112_3 := Y0.mk hl112_3; clear hi112_3 hl112_3; replace p112 := eq_true p112; replace q112 := eq_true q112) | ((with_reducible refine Yn (f := 50) rfl ?_); refine YO (some 53) rfl rfl Tryd.func50 Z6 rfl #[.agg #[.int .i64 ((Yk l0_3 0).f0), .string ((Yk l0_3 0).f1), .slice A112_2 ((Yk l0_3 0).f2).length c112_2, .slice A112_3 ((Yk l0_3 0).f3).length c112_3]] rfl Z0 ?_; (with_reducible refine ((ih k (by omega)).2 ((Yk l0_3 0).f0) ((Yk l0_3 0).f1) _ _ ((Yk l0_3 0).f2) _ _ ((Yk l0_3 0).f3) t113 _ ?side1 ?side2 ?side3 ?side4 A40.out).mono ?_); (case side1 => repeat (first | exact (Kd.C_below HR112_2.out HB.out) | (with_reducible refine Kd.C_alloc ?_ _) | (with_reducible refine Kd.C_drewN ?_ _) | (with_reducible refine Kd.C_drew ?_))); (case side2 => exact HC112_2.out); (case side3 => repeat (first | exact (Kd.C_below HR112_3.out HB.out) | (with_reducible refine Kd.C_alloc ?_ _) | (with_reducible refine Kd.C_drewN ?_ _) | (with_reducible refine Kd.C_drew ?_))); (case side4 => exact HC112_3.out); rintro e w44 ⟨rfl, hb⟩; refine ⟨_, rfl, ?_⟩; have n_ := Y2F (Yu (g := gb101) (o := .cells #[.int .i64 a0_0, .string a0_1, .slice A0_2 l0_2.length c0_2, .slice (some ad112) l0_3.length c0_3] 37 (0, 0)) QQ hb) (Yb QB hb); clear BK101 HB; obtain ⟨BK101, HB⟩ := n_; (try clear hb); (try clear hb2); (try clear hk); (try clear hi)))
        go_ret
        exact Z2d
       ·rw [if_neg c41] at H
        exact ZA
      ·rw [if_neg c39] at H
       exact ZA
     ·rw [if_neg c38] at H
      have c38b0 : (a0_0 == 5) = false := beq_eq_false_iff_ne.mpr c38
      have c38b1 : (a0_0 != 5) = true := bne_iff_ne.mpr c38
      by_cases c45 : a0_0 = 6
      ·rw [if_pos c45] at H
       have c45b0 : (a0_0 == 6) = true := beq_iff_eq.mpr c45
       have c45b1 : (a0_0 != 6) = false := bne_eq_false_iff_eq.mpr c45
       clear c45
       by_cases c46 : 0 < (l0_3.length : Int)
       ·rw [if_pos c46] at H
        have c46b0 : decide (0 < (l0_3.length : Int)) = true := decide_eq_true c46
        have c46b1 : decide (0 < l0_3.length) = true := decide_eq_true (by omega)
        clear c46
        replace H := Option.bind_eq_some_iff.mp H
        obtain ⟨t115, A470, H⟩ := H
        replace H : (if t115.size + 1 ≤ 9223372036854775807 then (some (t115 ++ (⟨#[43]⟩ : ByteArray))) else (none)) = some r := H
        have A47 := Y0.mk A470
        clear A470
        by_cases c48 : t115.size + 1 ≤ 9223372036854775807
        ·rw [if_pos c48] at H
         have c48b0 := eq_true c48
         have c48b1 : decide (t115.size + 1 ≤ 9223372036854775807) = true := decide_eq_true c48
         try have c48b2 : (9223372036854775807 < t115.size + 1) = False := eq_false (Nat.not_lt.2 c48)
         obtain rfl := Option.some.inj H
         go_enter Tryd.func24, Tryd.ntmps24
         go_wp2_with (first | ((with_reducible refine YF (N := 1) rfl ?_); refine YE ?hg (N := 1) ?hd (cs := #[.int .i64 a0_0, .string a0_1, .slice A0_2 l0_2.length c0_2, .slice A0_3 l0_3.length c0_3]) (t := 37) ?hr ?_; (case hd => rfl); (case hg => rfl); (case hr => exact Za); intro gb101 hg w49 hbox hb; have n_ := Y31 (Yb QB hb) (hbox) ((by rw [hg]; exact (Ym QB) : w.heap.size ≤ gb101)) ((by rw [hg]; exact (Ym QB) : w.heap.size ≤ gb101)); clear HB; obtain ⟨HB, BK101, GW101, GE101⟩ := n_; clear hb hbox hg; obtain ⟨hcz50_0, hcz50_1, hcz50_2, hcz50_3, hfz50_0, hfz50_1, hfz50_2, hfz50_3⟩ := YA BK101.out; have p114 : 0 ≤ (0 : Int) := (by omega); have q114 : 0 < (l0_3.length : Int) := of_decide_eq_true Z8; obtain ⟨ad114, A114_2, c114_2, A114_3, c114_3, e114, hx114_0, hx114_1, hx114_2, hx114_3, hl114_2, hi114_2, hl114_3, hi114_3⟩ := Y2r HR0_3.out 0 p114 q114; cases e114; have qi114 : (0 < l0_3.length) = True := eq_true (by omega); (try rw [show ((0 : Int)).toNat = 0 from rfl] at hx114_0 hx114_1 hx114_2 hx114_3); (try rw [show 0 * 4 = 0 from rfl] at hx114_0 hx114_1 hx114_2 hx114_3); (try rw [Addr.add_zero'] at hx114_0 hx114_1 hx114_2 hx114_3); replace hx114_0 := Y18 HB.out hx114_0; replace hx114_1 := Y18 HB.out hx114_1; replace hx114_2 := Y18 HB.out hx114_2; replace hx114_3 := Y18 HB.out hx114_3; have HR114_2 := Y0.mk hi114_2; have HC114_2 := Y0.mk hl114_2; clear hi114_2 hl114_2; have HR114_3 := Y0.mk hi114_3; have HC114_3 := Y0.mk hl114_3; clear hi114_3 hl114_3; replace p114 := eq_true p114; replace q114 := eq_true q114) | ((with_reducible refine Yn (f := 50) rfl ?_); refine YO (some 61) rfl rfl Tryd.func50 Z6 rfl #[.agg #[.int .i64 ((Yk l0_3 0).f0), .string ((Yk l0_3 0).f1), .slice A114_2 ((Yk l0_3 0).f2).length c114_2, .slice A114_3 ((Yk l0_3 0).f3).length c114_3]] rfl Z0 ?_; (with_reducible refine ((ih k (by omega)).2 ((Yk l0_3 0).f0) ((Yk l0_3 0).f1) _ _ ((Yk l0_3 0).f2) _ _ ((Yk l0_3 0).f3) t115 _ ?side1 ?side2 ?side3 ?side4 A47.out).mono ?_); (case side1 => repeat (first | exact (Kd.C_below HR114_2.out HB.out) | (with_reducible refine Kd.C_alloc ?_ _) | (with_reducible refine Kd.C_drewN ?_ _) | (with_reducible refine Kd.C_drew ?_))); (case side2 => exact HC114_2.out); (case side3 => repeat (first | exact (Kd.C_below HR114_3.out HB.out) | (with_reducible refine Kd.C_alloc ?_ _) | (with_reducible refine Kd.C_drewN ?_ _) | (with_reducible refine Kd.C_drew ?_))); (case side4 => exact HC114_3.out); rintro e w51 ⟨rfl, hb⟩; refine ⟨_, rfl, ?_⟩; have n_ := Y2F (Yu (g := gb101) (o := .cells #[.int .i64 a0_0, .string a0_1, .slice A0_2 l0_2.length c0_2, .slice (some ad114) l0_3.length c0_3] 37 (0, 0)) QQ hb) (Yb QB hb); clear BK101 HB; obtain ⟨BK101, HB⟩ := n_; (try clear hb); (try clear hb2); (try clear hk); (try clear hi)))
         go_ret
         exact Z2d
        ·rw [if_neg c48] at H
         exact ZA
       ·rw [if_neg c46] at H
        exact ZA
      ·rw [if_neg c45] at H
       have c45b0 : (a0_0 == 6) = false := beq_eq_false_iff_ne.mpr c45
       have c45b1 : (a0_0 != 6) = true := bne_iff_ne.mpr c45
       by_cases c52 : a0_0 = 7
       ·rw [if_pos c52] at H
        have c52b0 : (a0_0 == 7) = true := beq_iff_eq.mpr c52
        have c52b1 : (a0_0 != 7) = false := bne_eq_false_iff_eq.mpr c52
        clear c52
        by_cases c53 : 0 < (l0_3.length : Int)
        ·rw [if_pos c53] at H
         have c53b0 : decide (0 < (l0_3.length : Int)) = true := decide_eq_true c53
         have c53b1 : decide (0 < l0_3.length) = true := decide_eq_true (by omega)
         clear c53
         replace H := Option.bind_eq_some_iff.mp H
         obtain ⟨t117, A540, H⟩ := H
         replace H : (if t117.size + 1 ≤ 9223372036854775807 then (some (t117 ++ (⟨#[63]⟩ : ByteArray))) else (none)) = some r := H
         have A54 := Y0.mk A540
         clear A540
         by_cases c55 : t117.size + 1 ≤ 9223372036854775807
         ·rw [if_pos c55] at H
          have c55b0 := eq_true c55
          have c55b1 : decide (t117.size + 1 ≤ 9223372036854775807) = true := decide_eq_true c55
          try have c55b2 : (9223372036854775807 < t117.size + 1) = False := eq_false (Nat.not_lt.2 c55)
          obtain rfl := Option.some.inj H
          go_enter Tryd.func24, Tryd.ntmps24
          go_wp2_with (first | ((with_reducible refine YF (N := 1) rfl ?_); refine YE ?hg (N := 1) ?hd (cs := #[.int .i64 a0_0, .string a0_1, .slice A0_2 l0_2.length c0_2, .slice A0_3 l0_3.length c0_3]) (t := 37) ?hr ?_; (case hd => rfl); (case hg => rfl); (case hr => exact Za); intro gb101 hg w56 hbox hb; have n_ := Y31 (Yb QB hb) (hbox) ((by rw [hg]; exact (Ym QB) : w.heap.size ≤ gb101)) ((by rw [hg]; exact (Ym QB) : w.heap.size ≤ gb101)); clear HB; obtain ⟨HB, BK101, GW101, GE101⟩ := n_; clear hb hbox hg; obtain ⟨hcz57_0, hcz57_1, hcz57_2, hcz57_3, hfz57_0, hfz57_1, hfz57_2, hfz57_3⟩ := YA BK101.out; have p116 : 0 ≤ (0 : Int) := (by omega); have q116 : 0 < (l0_3.length : Int) := of_decide_eq_true Z8; obtain ⟨ad116, A116_2, c116_2, A116_3, c116_3, e116, hx116_0, hx116_1, hx116_2, hx116_3, hl116_2, hi116_2, hl116_3, hi116_3⟩ := Y2r HR0_3.out 0 p116 q116; cases e116; have qi116 : (0 < l0_3.length) = True := eq_true (by omega); (try rw [show ((0 : Int)).toNat = 0 from rfl] at hx116_0 hx116_1 hx116_2 hx116_3); (try rw [show 0 * 4 = 0 from rfl] at hx116_0 hx116_1 hx116_2 hx116_3); (try rw [Addr.add_zero'] at hx116_0 hx116_1 hx116_2 hx116_3); replace hx116_0 := Y18 HB.out hx116_0; replace hx116_1 := Y18 HB.out hx116_1; replace hx116_2 := Y18 HB.out hx116_2; replace hx116_3 := Y18 HB.out hx116_3; have HR116_2 := Y0.mk hi116_2; have HC116_2 := Y0.mk hl116_2; clear hi116_2 hl116_2; have HR116_3 := Y0.mk hi116_3; have HC116_3 := Y0.mk hl116_3; clear hi116_3 hl116_3; replace p116 := eq_true p116; replace q116 := eq_true q116) | ((with_reducible refine Yn (f := 50) rfl ?_); refine YO (some 69) rfl rfl Tryd.func50 Z6 rfl #[.agg #[.int .i64 ((Yk l0_3 0).f0), .string ((Yk l0_3 0).f1), .slice A116_2 ((Yk l0_3 0).f2).length c116_2, .slice A116_3 ((Yk l0_3 0).f3).length c116_3]] rfl Z0 ?_; (with_reducible refine ((ih k (by omega)).2 ((Yk l0_3 0).f0) ((Yk l0_3 0).f1) _ _ ((Yk l0_3 0).f2) _ _ ((Yk l0_3 0).f3) t117 _ ?side1 ?side2 ?side3 ?side4 A54.out).mono ?_); (case side1 => repeat (first | exact (Kd.C_below HR116_2.out HB.out) | (with_reducible refine Kd.C_alloc ?_ _) | (with_reducible refine Kd.C_drewN ?_ _) | (with_reducible refine Kd.C_drew ?_))); (case side2 => exact HC116_2.out); (case side3 => repeat (first | exact (Kd.C_below HR116_3.out HB.out) | (with_reducible refine Kd.C_alloc ?_ _) | (with_reducible refine Kd.C_drewN ?_ _) | (with_reducible refine Kd.C_drew ?_))); (case side4 => exact HC116_3.out); rintro e w58 ⟨rfl, hb⟩; refine ⟨_, rfl, ?_⟩; have n_ := Y2F (Yu (g := gb101) (o := .cells #[.int .i64 a0_0, .string a0_1, .slice A0_2 l0_2.length c0_2, .slice (some ad116) l0_3.length c0_3] 37 (0, 0)) QQ hb) (Yb QB hb); clear BK101 HB; obtain ⟨BK101, HB⟩ := n_; (try clear hb); (try clear hb2); (try clear hk); (try clear hi)))
          go_ret
          exact Z2d
         ·rw [if_neg c55] at H
          exact ZA
        ·rw [if_neg c53] at H
         exact ZA
       ·rw [if_neg c52] at H
        have c52b0 : (a0_0 == 7) = false := beq_eq_false_iff_ne.mpr c52
        have c52b1 : (a0_0 != 7) = true := bne_iff_ne.mpr c52
        replace H := Option.bind_eq_some_iff.mp H
        obtain ⟨t118, A590, H⟩ := H
        replace H : (if 3 + t118.size ≤ 9223372036854775807 then (if 3 + t118.size + 2 ≤ 9223372036854775807 then (some (((⟨#[33, 40, 60]⟩ : ByteArray) ++ t118) ++ (⟨#[62, 41]⟩ : ByteArray))) else (none)) else (none)) = some r := H
        have A59 := Y0.mk A590
        clear A590
        by_cases c60 : 3 + t118.size ≤ 9223372036854775807
        ·rw [if_pos c60] at H
         have c60b0 := eq_true c60
         have c60b1 : decide (3 + t118.size ≤ 9223372036854775807) = true := decide_eq_true c60
         try have c60b2 : (9223372036854775807 < 3 + t118.size) = False := eq_false (Nat.not_lt.2 c60)
         by_cases c61 : 3 + t118.size + 2 ≤ 9223372036854775807
         ·rw [if_pos c61] at H
          have c61b0 := eq_true c61
          have c61b1 : decide (3 + t118.size + 2 ≤ 9223372036854775807) = true := decide_eq_true c61
          try have c61b2 : (9223372036854775807 < 3 + t118.size + 2) = False := eq_false (Nat.not_lt.2 c61)
          obtain rfl := Option.some.inj H
          go_enter Tryd.func24, Tryd.ntmps24
          go_wp2_with (first | ((with_reducible refine YF (N := 1) rfl ?_); refine YE ?hg (N := 1) ?hd (cs := #[.int .i64 a0_0, .string a0_1, .slice A0_2 l0_2.length c0_2, .slice A0_3 l0_3.length c0_3]) (t := 37) ?hr ?_; (case hd => rfl); (case hg => rfl); (case hr => exact Za); intro gb101 hg w62 hbox hb; have n_ := Y31 (Yb QB hb) (hbox) ((by rw [hg]; exact (Ym QB) : w.heap.size ≤ gb101)) ((by rw [hg]; exact (Ym QB) : w.heap.size ≤ gb101)); clear HB; obtain ⟨HB, BK101, GW101, GE101⟩ := n_; clear hb hbox hg; obtain ⟨hcz63_0, hcz63_1, hcz63_2, hcz63_3, hfz63_0, hfz63_1, hfz63_2, hfz63_3⟩ := YA BK101.out) | ((with_reducible refine Yn (f := 51) rfl ?_); refine YO (some 73) rfl rfl Tryd.func51 Z6 rfl #[.slice A0_2 l0_2.length c0_2, .string (⟨#[62, 124, 60]⟩ : ByteArray)] rfl Z0 ?_; (with_reducible refine (strings_Join.calls _ _ l0_2 (⟨#[62, 124, 60]⟩ : ByteArray) t118 _ ?side1 ?side2 A59.out).mono ?_); (case side1 => exact Zd); (case side2 => exact Z1N); rintro e w64 ⟨rfl, hb⟩; refine ⟨_, rfl, ?_⟩; have n_ := Y2F (Yu (g := gb101) (o := .cells #[.int .i64 a0_0, .string a0_1, .slice A0_2 l0_2.length c0_2, .slice A0_3 l0_3.length c0_3] 37 (0, 0)) QQ hb) (Yb QB hb); clear BK101 HB; obtain ⟨BK101, HB⟩ := n_; (try clear hb); (try clear hb2); (try clear hk); (try clear hi)))
          go_ret
          exact Z2d
         ·rw [if_neg c61] at H
          exact ZA
        ·rw [if_neg c60] at H
         exact ZA
set_option maxHeartbeats 8000000 in
set_option maxRecDepth 100000 in
theorem YK.step (k : Nat) (ih : ∀ j_ < k, YH.Spec j_ ∧ YK.Spec j_) : ∀ (a0_0 : Int) (a0_1 : ByteArray) (A0_2 : Option Addr) (c0_2 : Nat) (l0_2 : List ByteArray) (A0_3 : Option Addr) (c0_3 : Nat) (l0_3 : List (S37)) (r : ByteArray) (w : World) (hr0_2 : Kd.C Kd.string w A0_2 l0_2.length l0_2) (hc0_2 : l0_2.length ≤ c0_2) (hr0_3 : Kd.C k37 w A0_3 l0_3.length l0_3) (hc0_3 : l0_3.length ≤ c0_3) (h : YK.f k a0_0 a0_1 l0_2 l0_3 = some r),
  Calls Tryd.prog 50 #[.agg #[.int .i64 a0_0, .string a0_1, .slice A0_2 l0_2.length c0_2, .slice A0_3 l0_3.length c0_3]] w fun e w' => e = .returned (.string r) ∧ Below w.heap.size w w' := by
 intro a0_0 a0_1 A0_2 c0_2 l0_2 A0_3 c0_3 l0_3 r w hr0_2 hc0_2 hr0_3 hc0_3 h
 cases k with
 | zero => exact absurd h (by simp [YK.f])
 | succ k =>
 simp only [YK.f] at h
 have hu37 := Tryd.underlying37
 have HR0_2 := Y0.mk hr0_2
 have HC0_2 := Y0.mk hc0_2
 clear hr0_2 hc0_2
 have HR0_3 := Y0.mk hr0_3
 have HC0_3 := Y0.mk hc0_3
 clear hr0_3 hc0_3
 have HB := Y0.mk (Below.refl w.heap.size w)
 have H : (if a0_0 = 1 then ((YH.f k a0_0 a0_1 l0_2 l0_3).bind fun t120 => (some t120)) else ((YH.f k a0_0 a0_1 l0_2 l0_3).bind fun t121 => (if 1 + t121.size ≤ 9223372036854775807 then (if 1 + t121.size + 1 ≤ 9223372036854775807 then (some (((⟨#[40]⟩ : ByteArray) ++ t121) ++ (⟨#[41]⟩ : ByteArray))) else (none)) else (none)))) = some r := h
 clear h
 by_cases c2 : a0_0 = 1
 ·rw [if_pos c2] at H
  have c2b0 : (a0_0 == 1) = true := beq_iff_eq.mpr c2
  have c2b1 : (a0_0 != 1) = false := bne_eq_false_iff_eq.mpr c2
  clear c2
  replace H := Option.bind_eq_some_iff.mp H
  obtain ⟨t120, A30, H⟩ := H
  replace H : (some t120) = some r := H
  have A3 := Y0.mk A30
  clear A30
  obtain rfl := Option.some.inj H
  go_enter Tryd.func50, Tryd.ntmps50
  go_wp2_with (first | ((with_reducible refine YF (N := 1) rfl ?_); refine YE ?hg (N := 1) ?hd (cs := #[.int .i64 a0_0, .string a0_1, .slice A0_2 l0_2.length c0_2, .slice A0_3 l0_3.length c0_3]) (t := 37) ?hr ?_; (case hd => rfl); (case hg => rfl); (case hr => exact Za); intro gb119 hg w4 hbox hb; have n_ := Y31 (Yb QB hb) (hbox) ((by rw [hg]; exact (Ym QB) : w.heap.size ≤ gb119)) ((by rw [hg]; exact (Ym QB) : w.heap.size ≤ gb119)); clear HB; obtain ⟨HB, BK119, GW119, GE119⟩ := n_; clear hb hbox hg; obtain ⟨hcz5_0, hcz5_1, hcz5_2, hcz5_3, hfz5_0, hfz5_1, hfz5_2, hfz5_3⟩ := YA BK119.out) | ((with_reducible refine Yn (f := 24) rfl ?_); refine YO (some 7) rfl rfl Tryd.func24 Z6 rfl #[.agg #[.int .i64 a0_0, .string a0_1, .slice A0_2 l0_2.length c0_2, .slice A0_3 l0_3.length c0_3]] rfl Z0 ?_; (with_reducible refine ((ih k (by omega)).1 a0_0 a0_1 _ _ l0_2 _ _ l0_3 t120 _ ?side1 ?side2 ?side3 ?side4 A3.out).mono ?_); (case side1 => exact Zd); (case side2 => exact Z1N); (case side3 => exact Zg); (case side4 => exact Z1V); rintro e w6 ⟨rfl, hb⟩; refine ⟨_, rfl, ?_⟩; have n_ := Y2F (Yu (g := gb119) (o := .cells #[.int .i64 a0_0, .string a0_1, .slice A0_2 l0_2.length c0_2, .slice A0_3 l0_3.length c0_3] 37 (0, 0)) QQ hb) (Yb QB hb); clear BK119 HB; obtain ⟨BK119, HB⟩ := n_; (try clear hb); (try clear hb2); (try clear hk); (try clear hi)))
  go_ret
  exact Z2d
 ·rw [if_neg c2] at H
  have c2b0 : (a0_0 == 1) = false := beq_eq_false_iff_ne.mpr c2
  have c2b1 : (a0_0 != 1) = true := bne_iff_ne.mpr c2
  replace H := Option.bind_eq_some_iff.mp H
  obtain ⟨t121, A70, H⟩ := H
  replace H : (if 1 + t121.size ≤ 9223372036854775807 then (if 1 + t121.size + 1 ≤ 9223372036854775807 then (some (((⟨#[40]⟩ : ByteArray) ++ t121) ++ (⟨#[41]⟩ : ByteArray))) else (none)) else (none)) = some r := H
  have A7 := Y0.mk A70
  clear A70
  by_cases c8 : 1 + t121.size ≤ 9223372036854775807
  ·rw [if_pos c8] at H
   have c8b0 := eq_true c8
   have c8b1 : decide (1 + t121.size ≤ 9223372036854775807) = true := decide_eq_true c8
   try have c8b2 : (9223372036854775807 < 1 + t121.size) = False := eq_false (Nat.not_lt.2 c8)
   by_cases c9 : 1 + t121.size + 1 ≤ 9223372036854775807
   ·rw [if_pos c9] at H
    have c9b0 := eq_true c9
    have c9b1 : decide (1 + t121.size + 1 ≤ 9223372036854775807) = true := decide_eq_true c9
    try have c9b2 : (9223372036854775807 < 1 + t121.size + 1) = False := eq_false (Nat.not_lt.2 c9)
    obtain rfl := Option.some.inj H
    go_enter Tryd.func50, Tryd.ntmps50
    go_wp2_with (first | ((with_reducible refine YF (N := 1) rfl ?_); refine YE ?hg (N := 1) ?hd (cs := #[.int .i64 a0_0, .string a0_1, .slice A0_2 l0_2.length c0_2, .slice A0_3 l0_3.length c0_3]) (t := 37) ?hr ?_; (case hd => rfl); (case hg => rfl); (case hr => exact Za); intro gb119 hg w10 hbox hb; have n_ := Y31 (Yb QB hb) (hbox) ((by rw [hg]; exact (Ym QB) : w.heap.size ≤ gb119)) ((by rw [hg]; exact (Ym QB) : w.heap.size ≤ gb119)); clear HB; obtain ⟨HB, BK119, GW119, GE119⟩ := n_; clear hb hbox hg; obtain ⟨hcz11_0, hcz11_1, hcz11_2, hcz11_3, hfz11_0, hfz11_1, hfz11_2, hfz11_3⟩ := YA BK119.out) | ((with_reducible refine Yn (f := 24) rfl ?_); refine YO (some 9) rfl rfl Tryd.func24 Z6 rfl #[.agg #[.int .i64 a0_0, .string a0_1, .slice A0_2 l0_2.length c0_2, .slice A0_3 l0_3.length c0_3]] rfl Z0 ?_; (with_reducible refine ((ih k (by omega)).1 a0_0 a0_1 _ _ l0_2 _ _ l0_3 t121 _ ?side1 ?side2 ?side3 ?side4 A7.out).mono ?_); (case side1 => exact Zd); (case side2 => exact Z1N); (case side3 => exact Zg); (case side4 => exact Z1V); rintro e w12 ⟨rfl, hb⟩; refine ⟨_, rfl, ?_⟩; have n_ := Y2F (Yu (g := gb119) (o := .cells #[.int .i64 a0_0, .string a0_1, .slice A0_2 l0_2.length c0_2, .slice A0_3 l0_3.length c0_3] 37 (0, 0)) QQ hb) (Yb QB hb); clear BK119 HB; obtain ⟨BK119, HB⟩ := n_; (try clear hb); (try clear hb2); (try clear hk); (try clear hi)))
    go_ret
    exact Z2d
   ·rw [if_neg c9] at H
    exact ZA
  ·rw [if_neg c8] at H
   exact ZA
theorem YH.joint : ∀ k, YH.Spec k ∧ YK.Spec k := by
 intro k
 induction k using Nat.strongRecOn with
 | _ k ih => exact ⟨YH.step k ih, YK.step k ih⟩
theorem YH.calls (k : Nat) : YH.Spec k := (YH.joint k).1
mutual
def Yv.j0 : Nat → Int → Bool → Int → ByteArray → List ByteArray → List (S37) → Option (Bool)
 | 0, _, _, _, _, _, _ => none
 | k + 1, x1, x26, x102000, x102001, x102002, x102003 => if x26 = true then (some true) else (Yv.l0 k x1 0 x102000 x102001 x102002 x102003)
def Yv.l0 : Nat → Int → Int → Int → ByteArray → List ByteArray → List (S37) → Option (Bool)
 | 0, _, _, _, _, _, _ => none
 | k + 1, x1, x5, x102000, x102001, x102002, x102003 => if x5 < (x102002.length : Int) then (if 0 ≤ x5 then (if ((Y37 ByteArray.empty x102002 x5).size : Int) > 300 then (some true) else (Yv.l0 k x1 (wrap64 (x5 + 1)) x102000 x102001 x102002 x102003)) else (none)) else (Yv.l1 k x1 0 x102000 x102001 x102002 x102003)
def Yv.l1 : Nat → Int → Int → Int → ByteArray → List ByteArray → List (S37) → Option (Bool)
 | 0, _, _, _, _, _, _ => none
 | k + 1, x1, x6, x102000, x102001, x102002, x102003 => if x6 < (x102003.length : Int) then (if 0 ≤ x6 then ((Yv.f k ((Yk x102003 x6).f0) ((Yk x102003 x6).f1) ((Yk x102003 x6).f2) ((Yk x102003 x6).f3) (wrap64 (x1 + 1))).bind fun t104 => (if t104 = true then (some true) else (Yv.l1 k x1 (wrap64 (x6 + 1)) x102000 x102001 x102002 x102003))) else (none)) else (some false)
def Yv.f : Nat → Int → ByteArray → List ByteArray → List (S37) → Int → Option (Bool)
 | 0, _, _, _, _, _ => none
 | k + 1, a0_0, a0_1, l0_2, l0_3, a1 => if a1 > 12 then (Yv.j0 k a1 true a0_0 a0_1 l0_2 l0_3) else (if (l0_3.length : Int) > 4 then (Yv.j0 k a1 true a0_0 a0_1 l0_2 l0_3) else (if (l0_2.length : Int) > 20 then (Yv.j0 k a1 true a0_0 a0_1 l0_2 l0_3) else (Yv.j0 k a1 (decide ((a0_1.size : Int) > 300)) a0_0 a0_1 l0_2 l0_3)))
end
set_option maxHeartbeats 8000000 in
set_option maxRecDepth 100000 in
theorem Yv.calls (k : Nat) : ∀ (a0_0 : Int) (a0_1 : ByteArray) (A0_2 : Option Addr) (c0_2 : Nat) (l0_2 : List ByteArray) (A0_3 : Option Addr) (c0_3 : Nat) (l0_3 : List (S37)) (a1 : Int) (r : Bool) (w : World) (hr0_2 : Kd.C Kd.string w A0_2 l0_2.length l0_2) (hc0_2 : l0_2.length ≤ c0_2) (hr0_3 : Kd.C k37 w A0_3 l0_3.length l0_3) (hc0_3 : l0_3.length ≤ c0_3) (h : Yv.f k a0_0 a0_1 l0_2 l0_3 a1 = some r),
  Calls Tryd.prog 22 #[.agg #[.int .i64 a0_0, .string a0_1, .slice A0_2 l0_2.length c0_2, .slice A0_3 l0_3.length c0_3], .int .i64 a1] w fun e w' => e = .returned (.bool r) ∧ Below w.heap.size w w' := by
 induction k using Nat.strongRecOn with
 | _ k ih =>
 intro a0_0 a0_1 A0_2 c0_2 l0_2 A0_3 c0_3 l0_3 a1 r w hr0_2 hc0_2 hr0_3 hc0_3 h
 cases k with
 | zero => exact absurd h (by simp [Yv.f])
 | succ k =>
 simp only [Yv.f] at h
 have hu37 := Tryd.underlying37
 have HR0_2 := Y0.mk hr0_2
 have HC0_2 := Y0.mk hc0_2
 clear hr0_2 hc0_2
 have HR0_3 := Y0.mk hr0_3
 have HC0_3 := Y0.mk hc0_3
 clear hr0_3 hc0_3
 have HB := Y0.mk (Below.refl w.heap.size w)
 have H : (if a1 > 12 then (Yv.j0 k a1 true a0_0 a0_1 l0_2 l0_3) else (if (l0_3.length : Int) > 4 then (Yv.j0 k a1 true a0_0 a0_1 l0_2 l0_3) else (if (l0_2.length : Int) > 20 then (Yv.j0 k a1 true a0_0 a0_1 l0_2 l0_3) else (Yv.j0 k a1 (decide ((a0_1.size : Int) > 300)) a0_0 a0_1 l0_2 l0_3)))) = some r := h
 clear h
 have HC3 := Y0.mk H
 clear H
 go_enter Tryd.func22, Tryd.ntmps22
 go_upto_region 1 with (first | ((with_reducible refine YF (N := 2) rfl ?_); (try (refine YX (by rfl) ?_; dsimp only)); refine YE ?hg (N := 2) ?hd (cs := #[.int .i64 a0_0, .string a0_1, .slice A0_2 l0_2.length c0_2, .slice A0_3 l0_3.length c0_3]) (t := 37) ?hr ?_; (case hd => rfl); (case hg => rfl); (case hr => exact Za); intro gb101 hg w4 hbox hb; have n_ := Y31 (Yb QB hb) (hbox) ((by rw [hg]; exact (Ym QB) : w.heap.size ≤ gb101)) ((by rw [hg]; exact (Ym QB) : w.heap.size ≤ gb101)); clear HB; obtain ⟨HB, BK101, GW101, GE101⟩ := n_; clear hb hbox hg))
 (try simp only [Act.put, List.setIfInBounds_toArray, List.set_cons_zero, List.set_cons_succ])
 go_cut [26] (fun v26 wc => ∃ (kq : Nat) (x26_2 : Bool), v26 = .bool x26_2 ∧ Y0 (Yv.j0 kq a1 x26_2 a0_0 a0_1 l0_2 l0_3 = some r) ∧ Y0 (kq ≤ k) ∧ Y0 (wc.heap[gb101]? = some (.cells #[.int .i64 a0_0, .string a0_1, (.slice A0_2 l0_2.length c0_2), (.slice A0_3 l0_3.length c0_3)] 37 (0, 0))) ∧ Y0 (Below w.heap.size w wc))
 case first =>
  have H := HC3.out
  clear HC3
  by_cases c5 : a1 > 12
  ·rw [if_pos c5] at H
   have c5b0 : decide (12 < a1) = true := decide_eq_true c5
   clear c5
   (first | rw [c5b0] | (simp only [Y16, Y17]; rw [c5b0]) | skip)
   have H' := Y0.mk H
   clear H
   go_wp2
   go_meet
   case rel => exact Z2f
  ·rw [if_neg c5] at H
   have c5b0 : decide (12 < a1) = false := decide_eq_false c5
   clear c5
   (first | rw [c5b0] | (simp only [Y16, Y17]; rw [c5b0]) | skip)
   by_cases c6 : (l0_3.length : Int) > 4
   ·rw [if_pos c6] at H
    have c6b0 : decide (4 < (l0_3.length : Int)) = true := decide_eq_true c6
    have c6b1 : decide (4 < l0_3.length) = true := decide_eq_true (by omega)
    clear c6
    have H' := Y0.mk H
    clear H
    obtain ⟨hcz7_0, hcz7_1, hcz7_2, hcz7_3, hfz7_0, hfz7_1, hfz7_2, hfz7_3⟩ := YA BK101.out
    go_wp2
    go_meet
    case rel => exact Z2f
   ·rw [if_neg c6] at H
    have c6b0 : decide (4 < (l0_3.length : Int)) = false := decide_eq_false c6
    have c6b1 : decide (4 < l0_3.length) = false := decide_eq_false (by omega)
    clear c6
    by_cases c8 : (l0_2.length : Int) > 20
    ·rw [if_pos c8] at H
     have c8b0 : decide (20 < (l0_2.length : Int)) = true := decide_eq_true c8
     have c8b1 : decide (20 < l0_2.length) = true := decide_eq_true (by omega)
     clear c8
     have H' := Y0.mk H
     clear H
     obtain ⟨hcz9_0, hcz9_1, hcz9_2, hcz9_3, hfz9_0, hfz9_1, hfz9_2, hfz9_3⟩ := YA BK101.out
     go_wp2
     go_meet
     case rel => exact Z2f
    ·rw [if_neg c8] at H
     have c8b0 : decide (20 < (l0_2.length : Int)) = false := decide_eq_false c8
     have c8b1 : decide (20 < l0_2.length) = false := decide_eq_false (by omega)
     clear c8
     have H' := Y0.mk H
     clear H
     obtain ⟨hcz10_0, hcz10_1, hcz10_2, hcz10_3, hfz10_0, hfz10_1, hfz10_2, hfz10_3⟩ := YA BK101.out
     go_wp2
     go_meet
     case rel => exact ⟨_, (decide ((a0_1.size : Int) > 300)), Z7, H', ⟨Zr⟩, ⟨Z4⟩, ⟨QB⟩⟩
 case rest =>
  clear HC3
  try clear c2
  try clear p2
  try clear c5
  try clear c5b0
  try clear c6
  try clear c6b0
  try clear c6b1
  try clear c8
  try clear c8b0
  try clear c8b1
  try clear hcz10_0 hcz10_1 hcz10_2 hcz10_3
  try clear hcz7_0 hcz7_1 hcz7_2 hcz7_3
  try clear hcz9_0 hcz9_1 hcz9_2 hcz9_3
  try clear hfz10_0
  try clear hfz10_1
  try clear hfz10_2
  try clear hfz10_3
  try clear hfz7_0
  try clear hfz7_1
  try clear hfz7_2
  try clear hfz7_3
  try clear hfz9_0
  try clear hfz9_1
  try clear hfz9_2
  try clear hfz9_3
  obtain ⟨kq, x26_2, rfl, HA, HJ2, BK101, HB⟩ := hcut
  cases kq with
  | zero => exact absurd HA.out (by simp [Yv.j0])
  | succ kj2 =>
   have H := HA.out
   clear HA
   simp only [Yv.j0] at H
   by_cases c11 : x26_2 = true
   ·subst c11
    have H1 : (some true) = some r := by rw [if_pos rfl] at H; exact H
    clear H
    have H := H1
    clear H1
    obtain rfl := Option.some.inj H
    go_wp2
    go_ret
    exact Z2d
   ·replace c11 := Bool.eq_false_iff.mpr c11
    subst c11
    have H1 : (Yv.l0 kj2 a1 0 a0_0 a0_1 l0_2 l0_3) = some r := by rw [if_neg (show ¬ (false = true) by decide)] at H; exact H
    clear H
    have H := H1
    clear H1
    have H' := Y0.mk H
    clear H
    go_wp2
    go_loopg [5] kj2 (fun kq v5 w' => ∃ (x5_2 : Int), v5 = .int .i64 x5_2 ∧ Y0 (Yv.l0 kq a1 x5_2 a0_0 a0_1 l0_2 l0_3 = some r) ∧ Y0 (kq ≤ kj2) ∧ Y0 (w'.heap[gb101]? = some (.cells #[.int .i64 a0_0, .string a0_1, (.slice A0_2 l0_2.length c0_2), (.slice A0_3 l0_3.length c0_3)] 37 (0, 0))) ∧ Y0 (Below w.heap.size w w'))
    case atStart => exact Z2m
    case round =>
     clear H'
     try clear c1
     try clear c2
     try clear p2
     try clear c5
     try clear c5b0
     try clear c6
     try clear c6b0
     try clear c6b1
     try clear c8
     try clear c8b0
     try clear c8b1
     try clear c11
     try clear hcz10_0 hcz10_1 hcz10_2 hcz10_3
     try clear hcz7_0 hcz7_1 hcz7_2 hcz7_3
     try clear hcz9_0 hcz9_1 hcz9_2 hcz9_3
     try clear hfz10_0
     try clear hfz10_1
     try clear hfz10_2
     try clear hfz10_3
     try clear hfz7_0
     try clear hfz7_1
     try clear hfz7_2
     try clear hfz7_3
     try clear hfz9_0
     try clear hfz9_1
     try clear hfz9_2
     try clear hfz9_3
     try clear p2
     obtain ⟨x5_2, rfl, HA, HK2, BK101, HB⟩ := hrel
     cases gk with
     | zero => exact absurd HA.out (by simp [Yv.l0])
     | succ k2 =>
      have H := HA.out
      clear HA
      simp only [Yv.l0] at H
      by_cases c12 : x5_2 < (l0_2.length : Int)
      ·rw [if_pos c12] at H
       have c12b0 : decide (x5_2 < (l0_2.length : Int)) = true := decide_eq_true c12
       clear c12
       by_cases c13 : 0 ≤ x5_2
       ·rw [if_pos c13] at H
        have c13b0 : decide (0 ≤ x5_2) = true := decide_eq_true c13
        clear c13
        by_cases c14 : ((Y37 ByteArray.empty l0_2 x5_2).size : Int) > 300
        ·rw [if_pos c14] at H
         have c14b0 : decide (300 < ((Y37 ByteArray.empty l0_2 x5_2).size : Int)) = true := decide_eq_true c14
         have c14b1 : decide (300 < (Y37 ByteArray.empty l0_2 x5_2).size) = true := decide_eq_true (by omega)
         clear c14
         obtain rfl := Option.some.inj H
         obtain ⟨hcz15_0, hcz15_1, hcz15_2, hcz15_3, hfz15_0, hfz15_1, hfz15_2, hfz15_3⟩ := YA BK101.out
         have p102 : 0 ≤ (x5_2 : Int) := of_decide_eq_true Z8
         have q102 : x5_2 < (l0_2.length : Int) := of_decide_eq_true Z8
         obtain ⟨ad102, e102, hx102_0⟩ := Kd.at_string HR0_2.out x5_2 p102 q102
         cases e102
         replace hx102_0 := Y18 HB.out hx102_0
         replace p102 := eq_true p102
         replace q102 := eq_true q102
         go_wp2
         go_ret
         exact Z2d
        ·rw [if_neg c14] at H
         have c14b0 : decide (300 < ((Y37 ByteArray.empty l0_2 x5_2).size : Int)) = false := decide_eq_false c14
         have c14b1 : decide (300 < (Y37 ByteArray.empty l0_2 x5_2).size) = false := decide_eq_false (by omega)
         clear c14
         have H' := Y0.mk H
         clear H
         obtain ⟨hcz16_0, hcz16_1, hcz16_2, hcz16_3, hfz16_0, hfz16_1, hfz16_2, hfz16_3⟩ := YA BK101.out
         have p102 : 0 ≤ (x5_2 : Int) := of_decide_eq_true Z8
         have q102 : x5_2 < (l0_2.length : Int) := of_decide_eq_true Z8
         obtain ⟨ad102, e102, hx102_0⟩ := Kd.at_string HR0_2.out x5_2 p102 q102
         cases e102
         replace hx102_0 := Y18 HB.out hx102_0
         replace p102 := eq_true p102
         replace q102 := eq_true q102
         go_wp2
         go_roundg k2
         case measure => have := HJ2.out; have := HK2.out; omega
         case rel => exact ⟨(wrap64 (x5_2 + 1)), Z7, H', ⟨by have := HJ2.out; have := HK2.out; omega⟩, ⟨Z4⟩, ⟨QB⟩⟩
       ·rw [if_neg c13] at H
        exact ZA
      ·rw [if_neg c12] at H
       have c12b0 : decide (x5_2 < (l0_2.length : Int)) = false := decide_eq_false c12
       clear c12
       have H' := Y0.mk H
       clear H
       obtain ⟨hcz17_0, hcz17_1, hcz17_2, hcz17_3, hfz17_0, hfz17_1, hfz17_2, hfz17_3⟩ := YA BK101.out
       go_wp2
       go_loopg [6] k2 (fun kq v6 w' => ∃ (x6_3 : Int), v6 = .int .i64 x6_3 ∧ Y0 (Yv.l1 kq a1 x6_3 a0_0 a0_1 l0_2 l0_3 = some r) ∧ Y0 (kq ≤ k2) ∧ Y0 (w'.heap[gb101]? = some (.cells #[.int .i64 a0_0, .string a0_1, (.slice A0_2 l0_2.length c0_2), (.slice A0_3 l0_3.length c0_3)] 37 (0, 0))) ∧ Y0 (Below w.heap.size w w'))
       case atStart => exact Z2m
       case round =>
        clear H'
        try clear c1
        try clear p1
        try clear q1
        try clear hx1
        try clear c2
        try clear p2
        try clear c5
        try clear c5b0
        try clear c6
        try clear c6b0
        try clear c6b1
        try clear p6
        try clear c8
        try clear c8b0
        try clear c8b1
        try clear p10
        try clear q10
        try clear hx10
        try clear c11
        try clear c12
        try clear c12b0
        try clear c13
        try clear c13b0
        try clear c14
        try clear c14b0
        try clear c14b1
        try clear hcz10_0 hcz10_1 hcz10_2 hcz10_3
        try clear hcz15_0 hcz15_1 hcz15_2 hcz15_3
        try clear hcz16_0 hcz16_1 hcz16_2 hcz16_3
        try clear hcz17_0 hcz17_1 hcz17_2 hcz17_3
        try clear hcz7_0 hcz7_1 hcz7_2 hcz7_3
        try clear hcz9_0 hcz9_1 hcz9_2 hcz9_3
        try clear hfz10_0
        try clear hfz10_1
        try clear hfz10_2
        try clear hfz10_3
        try clear hfz15_0
        try clear hfz15_1
        try clear hfz15_2
        try clear hfz15_3
        try clear hfz16_0
        try clear hfz16_1
        try clear hfz16_2
        try clear hfz16_3
        try clear hfz17_0
        try clear hfz17_1
        try clear hfz17_2
        try clear hfz17_3
        try clear hfz7_0
        try clear hfz7_1
        try clear hfz7_2
        try clear hfz7_3
        try clear hfz9_0
        try clear hfz9_1
        try clear hfz9_2
        try clear hfz9_3
        try clear hx102_0
        try clear p102
        try clear p2
        try clear q102
        obtain ⟨x6_3, rfl, HA, HK3, BK101, HB⟩ := hrel
        cases gk with
        | zero => exact absurd HA.out (by simp [Yv.l1])
        | succ k3 =>
         have H := HA.out
         clear HA
         simp only [Yv.l1] at H
         by_cases c18 : x6_3 < (l0_3.length : Int)
         ·rw [if_pos c18] at H
          have c18b0 : decide (x6_3 < (l0_3.length : Int)) = true := decide_eq_true c18
          clear c18
          by_cases c19 : 0 ≤ x6_3
          ·rw [if_pos c19] at H
           have c19b0 : decide (0 ≤ x6_3) = true := decide_eq_true c19
           clear c19
           replace H := Option.bind_eq_some_iff.mp H
           obtain ⟨t104, A200, H⟩ := H
           replace H : (if t104 = true then (some true) else (Yv.l1 k3 a1 (wrap64 (x6_3 + 1)) a0_0 a0_1 l0_2 l0_3)) = some r := H
           have A20 := Y0.mk A200
           clear A200
           by_cases c21 : t104 = true
           ·subst c21
            have H1 : (some true) = some r := by rw [if_pos rfl] at H; exact H
            clear H
            have H := H1
            clear H1
            obtain rfl := Option.some.inj H
            obtain ⟨hcz22_0, hcz22_1, hcz22_2, hcz22_3, hfz22_0, hfz22_1, hfz22_2, hfz22_3⟩ := YA BK101.out
            have p103 : 0 ≤ (x6_3 : Int) := of_decide_eq_true Z8
            have q103 : x6_3 < (l0_3.length : Int) := of_decide_eq_true Z8
            obtain ⟨ad103, A103_2, c103_2, A103_3, c103_3, e103, hx103_0, hx103_1, hx103_2, hx103_3, hl103_2, hi103_2, hl103_3, hi103_3⟩ := Y2r HR0_3.out x6_3 p103 q103
            cases e103
            replace hx103_0 := Y18 HB.out hx103_0
            replace hx103_1 := Y18 HB.out hx103_1
            replace hx103_2 := Y18 HB.out hx103_2
            replace hx103_3 := Y18 HB.out hx103_3
            have HR103_2 := Y0.mk hi103_2
            have HC103_2 := Y0.mk hl103_2
            clear hi103_2 hl103_2
            have HR103_3 := Y0.mk hi103_3
            have HC103_3 := Y0.mk hl103_3
            clear hi103_3 hl103_3
            replace p103 := eq_true p103
            replace q103 := eq_true q103
            go_wp2_with (first | ((with_reducible refine Yn (f := 22) rfl ?_); refine YO (some 55) rfl rfl Tryd.func22 Z6 rfl #[.agg #[.int .i64 ((Yk l0_3 x6_3).f0), .string ((Yk l0_3 x6_3).f1), .slice A103_2 ((Yk l0_3 x6_3).f2).length c103_2, .slice A103_3 ((Yk l0_3 x6_3).f3).length c103_3], .int .i64 (wrap64 (a1 + 1))] rfl Z0 ?_; (with_reducible refine (ih k3 Z1d ((Yk l0_3 x6_3).f0) ((Yk l0_3 x6_3).f1) _ _ ((Yk l0_3 x6_3).f2) _ _ ((Yk l0_3 x6_3).f3) (wrap64 (a1 + 1)) true _ ?side1 ?side2 ?side3 ?side4 A20.out).mono ?_); (case side1 => exact Z1p); (case side2 => exact HC103_2.out); (case side3 => exact Z1q); (case side4 => exact HC103_3.out); rintro e w23 ⟨rfl, hb⟩; refine ⟨_, rfl, ?_⟩; have n_ := Y2F (Yu (g := gb101) (o := .cells #[.int .i64 a0_0, .string a0_1, .slice A0_2 l0_2.length c0_2, .slice (some ad103) l0_3.length c0_3] 37 (0, 0)) QQ hb) (Yb QB hb); clear BK101 HB; obtain ⟨BK101, HB⟩ := n_; (try clear hb); (try clear hb2); (try clear hk); (try clear hi)))
            go_ret
            exact Z2d
           ·replace c21 := Bool.eq_false_iff.mpr c21
            subst c21
            have H1 : (Yv.l1 k3 a1 (wrap64 (x6_3 + 1)) a0_0 a0_1 l0_2 l0_3) = some r := by rw [if_neg (show ¬ (false = true) by decide)] at H; exact H
            clear H
            have H := H1
            clear H1
            have H' := Y0.mk H
            clear H
            obtain ⟨hcz24_0, hcz24_1, hcz24_2, hcz24_3, hfz24_0, hfz24_1, hfz24_2, hfz24_3⟩ := YA BK101.out
            have p103 : 0 ≤ (x6_3 : Int) := of_decide_eq_true Z8
            have q103 : x6_3 < (l0_3.length : Int) := of_decide_eq_true Z8
            obtain ⟨ad103, A103_2, c103_2, A103_3, c103_3, e103, hx103_0, hx103_1, hx103_2, hx103_3, hl103_2, hi103_2, hl103_3, hi103_3⟩ := Y2r HR0_3.out x6_3 p103 q103
            cases e103
            replace hx103_0 := Y18 HB.out hx103_0
            replace hx103_1 := Y18 HB.out hx103_1
            replace hx103_2 := Y18 HB.out hx103_2
            replace hx103_3 := Y18 HB.out hx103_3
            have HR103_2 := Y0.mk hi103_2
            have HC103_2 := Y0.mk hl103_2
            clear hi103_2 hl103_2
            have HR103_3 := Y0.mk hi103_3
            have HC103_3 := Y0.mk hl103_3
            clear hi103_3 hl103_3
            replace p103 := eq_true p103
            replace q103 := eq_true q103
            go_wp2_with (first | ((with_reducible refine Yn (f := 22) rfl ?_); refine YO (some 55) rfl rfl Tryd.func22 Z6 rfl #[.agg #[.int .i64 ((Yk l0_3 x6_3).f0), .string ((Yk l0_3 x6_3).f1), .slice A103_2 ((Yk l0_3 x6_3).f2).length c103_2, .slice A103_3 ((Yk l0_3 x6_3).f3).length c103_3], .int .i64 (wrap64 (a1 + 1))] rfl Z0 ?_; (with_reducible refine (ih k3 Z1d ((Yk l0_3 x6_3).f0) ((Yk l0_3 x6_3).f1) _ _ ((Yk l0_3 x6_3).f2) _ _ ((Yk l0_3 x6_3).f3) (wrap64 (a1 + 1)) false _ ?side1 ?side2 ?side3 ?side4 A20.out).mono ?_); (case side1 => exact Z1p); (case side2 => exact HC103_2.out); (case side3 => exact Z1q); (case side4 => exact HC103_3.out); rintro e w25 ⟨rfl, hb⟩; refine ⟨_, rfl, ?_⟩; have n_ := Y2F (Yu (g := gb101) (o := .cells #[.int .i64 a0_0, .string a0_1, .slice A0_2 l0_2.length c0_2, .slice (some ad103) l0_3.length c0_3] 37 (0, 0)) QQ hb) (Yb QB hb); clear BK101 HB; obtain ⟨BK101, HB⟩ := n_; (try clear hb); (try clear hb2); (try clear hk); (try clear hi)))
            go_roundg k3
            case measure => have := HJ2.out; have := HK2.out; have := HK3.out; omega
            case rel => exact ⟨(wrap64 (x6_3 + 1)), Z7, H', ⟨Z1d⟩, ⟨Z4⟩, ⟨QB⟩⟩
          ·rw [if_neg c19] at H
           exact ZA
         ·rw [if_neg c18] at H
          have c18b0 : decide (x6_3 < (l0_3.length : Int)) = false := decide_eq_false c18
          clear c18
          obtain rfl := Option.some.inj H
          obtain ⟨hcz26_0, hcz26_1, hcz26_2, hcz26_3, hfz26_0, hfz26_1, hfz26_2, hfz26_3⟩ := YA BK101.out
          go_wp2
          go_ret
          exact Z2d
mutual
def YI.j0 : Nat → Int → Bool → Option (Int)
 | 0, _, _ => none
 | k + 1, x3, x4 => if x4 = true then (some 0) else (if x3 = 2 then (YI.j1 k x3 (x3 == 2)) else (if x3 = 5 then (YI.j1 k x3 (x3 == 5)) else (if x3 = 6 then (YI.j1 k x3 (x3 == 6)) else (YI.j1 k x3 (x3 == 7)))))
def YI.j1 : Nat → Int → Bool → Option (Int)
 | 0, _, _ => none
 | k + 1, x3, x7 => if x7 = true then (some 1) else (if x3 = 3 then (some 2) else (if x3 = 4 then (some 2) else (some (-1))))
end
def YI.f (k : Nat) (a0 : Int) : Option (Int) := if a0 = 1 then (YI.j0 k a0 (a0 == 1)) else (YI.j0 k a0 (a0 == 8))
theorem YI.mono_l : ∀ k, (∀ y0 y1, LeO (YI.j0 k y0 y1) (YI.j0 (k + 1) y0 y1)) ∧ (∀ y0 y1, LeO (YI.j1 k y0 y1) (YI.j1 (k + 1) y0 y1))
 | 0 => ⟨fun _ _ r h => by simp [YI.j0] at h, fun _ _ r h => by simp [YI.j1] at h⟩
 | k + 1 => by
  obtain ⟨ih0, ih1⟩ := YI.mono_l k
  refine ⟨?_, ?_⟩
  ·intro y0 y1
   unfold YI.j0
   exact QM
  ·intro y0 y1
   unfold YI.j1
   exact QM
theorem YI.mono : ∀ a0 k, LeO (YI.f k a0) (YI.f (k + 1) a0) := by
 intro a0 k
 obtain ⟨ih0, ih1⟩ := YI.mono_l k
 unfold YI.f
 exact QM
set_option maxHeartbeats 8000000 in
set_option maxRecDepth 100000 in
theorem YI.calls (k : Nat) (a0 : Int) (r : Int) (w : World) (h : YI.f k a0 = some r) :
  Calls Tryd.prog 98 #[.int .i64 a0] w fun e w' => e = .returned (.int .i64 r) ∧ Y2w w w' := by
 have H : (if a0 = 1 then (YI.j0 k a0 (a0 == 1)) else (YI.j0 k a0 (a0 == 8))) = some r := h
 clear h
 have HC2 := Y0.mk H
 clear H
 go_enter Tryd.func98, Tryd.ntmps98
 go_upto_if 4 with (fail)
 go_cut [4] (fun v4 wc => ∃ (kq : Nat) (x4_1 : Bool), v4 = .bool x4_1 ∧ Y0 (YI.j0 kq a0 x4_1 = some r) ∧ Y0 (kq ≤ k) ∧ Y2w w wc)
 case first =>
  have H := HC2.out
  clear HC2
  by_cases c3 : a0 = 1
  ·rw [if_pos c3] at H
   have c3b0 : (a0 == 1) = true := beq_iff_eq.mpr c3
   have c3b1 : (a0 != 1) = false := bne_eq_false_iff_eq.mpr c3
   clear c3
   (first | rw [c3b0] | (simp only [Y16, Y17]; rw [c3b0]) | skip)
   have H' := Y0.mk H
   clear H
   go_wp2
   go_meet
   case rel => exact ⟨_, ((a0 == 1)), Z7, H', ⟨Zr⟩, Zp⟩
  ·rw [if_neg c3] at H
   have c3b0 : (a0 == 1) = false := beq_eq_false_iff_ne.mpr c3
   have c3b1 : (a0 != 1) = true := bne_iff_ne.mpr c3
   (first | rw [c3b0] | (simp only [Y16, Y17]; rw [c3b0]) | skip)
   have H' := Y0.mk H
   clear H
   go_wp2
   go_meet
   case rel => exact ⟨_, ((a0 == 8)), Z7, H', ⟨Zr⟩, Zp⟩
 case rest =>
  clear HC2
  try clear p2
  try clear c3
  try clear c3b0
  try clear c3b1
  obtain ⟨kq, x4_1, rfl, HA, HJ1, ⟨mc1, rfl⟩⟩ := hcut
  cases kq with
  | zero => exact absurd HA.out (by simp [YI.j0])
  | succ kj1 =>
   have H := HA.out
   clear HA
   simp only [YI.j0] at H
   by_cases c4 : x4_1 = true
   ·subst c4
    have H1 : (some 0) = some r := by rw [if_pos rfl] at H; exact H
    clear H
    have H := H1
    clear H1
    obtain rfl := Option.some.inj H
    go_wp2
    go_ret
    exact ⟨Z7, Zp⟩
   ·replace c4 := Bool.eq_false_iff.mpr c4
    subst c4
    have H1 : (if a0 = 2 then (YI.j1 kj1 a0 (a0 == 2)) else (if a0 = 5 then (YI.j1 kj1 a0 (a0 == 5)) else (if a0 = 6 then (YI.j1 kj1 a0 (a0 == 6)) else (YI.j1 kj1 a0 (a0 == 7))))) = some r := by rw [if_neg (show ¬ (false = true) by decide)] at H; exact H
    clear H
    have H := H1
    clear H1
    have HC5 := Y0.mk H
    clear H
    go_upto_if 7 with (fail)
    go_cut [7] (fun v7 wc => ∃ (kq : Nat) (x7_4 : Bool), v7 = .bool x7_4 ∧ Y0 (YI.j1 kq a0 x7_4 = some r) ∧ Y0 (kq ≤ kj1) ∧ Y2w w wc)
    case first =>
     have H := HC5.out
     clear HC5
     by_cases c6 : a0 = 2
     ·rw [if_pos c6] at H
      have c6b0 : (a0 == 2) = true := beq_iff_eq.mpr c6
      have c6b1 : (a0 != 2) = false := bne_eq_false_iff_eq.mpr c6
      clear c6
      (first | rw [c6b0] | (simp only [Y16, Y17]; rw [c6b0]) | skip)
      have H' := Y0.mk H
      clear H
      go_wp2
      go_meet
      case rel => exact ⟨_, ((a0 == 2)), Z7, H', ⟨Z17⟩, Zp⟩
     ·rw [if_neg c6] at H
      have c6b0 : (a0 == 2) = false := beq_eq_false_iff_ne.mpr c6
      have c6b1 : (a0 != 2) = true := bne_iff_ne.mpr c6
      (first | rw [c6b0] | (simp only [Y16, Y17]; rw [c6b0]) | skip)
      by_cases c7 : a0 = 5
      ·rw [if_pos c7] at H
       have c7b0 : (a0 == 5) = true := beq_iff_eq.mpr c7
       have c7b1 : (a0 != 5) = false := bne_eq_false_iff_eq.mpr c7
       clear c7
       have H' := Y0.mk H
       clear H
       go_wp2
       go_meet
       case rel => exact ⟨_, ((a0 == 5)), Z7, H', ⟨Z17⟩, Zp⟩
      ·rw [if_neg c7] at H
       have c7b0 : (a0 == 5) = false := beq_eq_false_iff_ne.mpr c7
       have c7b1 : (a0 != 5) = true := bne_iff_ne.mpr c7
       by_cases c8 : a0 = 6
       ·rw [if_pos c8] at H
        have c8b0 : (a0 == 6) = true := beq_iff_eq.mpr c8
        have c8b1 : (a0 != 6) = false := bne_eq_false_iff_eq.mpr c8
        clear c8
        have H' := Y0.mk H
        clear H
        go_wp2
        go_meet
        case rel => exact ⟨_, ((a0 == 6)), Z7, H', ⟨Z17⟩, Zp⟩
       ·rw [if_neg c8] at H
        have c8b0 : (a0 == 6) = false := beq_eq_false_iff_ne.mpr c8
        have c8b1 : (a0 != 6) = true := bne_iff_ne.mpr c8
        have H' := Y0.mk H
        clear H
        go_wp2
        go_meet
        case rel => exact ⟨_, ((a0 == 7)), Z7, H', ⟨Z17⟩, Zp⟩
    case rest =>
     clear HC5
     try clear c1
     try clear p2
     try clear c3
     try clear c3b0
     try clear c3b1
     try clear c4
     try clear c6
     try clear c6b0
     try clear c6b1
     try clear c7
     try clear c7b0
     try clear c7b1
     try clear c8
     try clear c8b0
     try clear c8b1
     try clear p2
     obtain ⟨kq, x7_4, rfl, HA, HJ4, ⟨mc4, rfl⟩⟩ := hcut
     cases kq with
     | zero => exact absurd HA.out (by simp [YI.j1])
     | succ kj4 =>
      have H := HA.out
      clear HA
      simp only [YI.j1] at H
      by_cases c9 : x7_4 = true
      ·subst c9
       have H1 : (some 1) = some r := by rw [if_pos rfl] at H; exact H
       clear H
       have H := H1
       clear H1
       obtain rfl := Option.some.inj H
       go_wp2
       go_ret
       exact ⟨Z7, Zp⟩
      ·replace c9 := Bool.eq_false_iff.mpr c9
       subst c9
       have H1 : (if a0 = 3 then (some 2) else (if a0 = 4 then (some 2) else (some (-1)))) = some r := by rw [if_neg (show ¬ (false = true) by decide)] at H; exact H
       clear H
       have H := H1
       clear H1
       by_cases c10 : a0 = 3
       ·rw [if_pos c10] at H
        have c10b0 : (a0 == 3) = true := beq_iff_eq.mpr c10
        have c10b1 : (a0 != 3) = false := bne_eq_false_iff_eq.mpr c10
        clear c10
        obtain rfl := Option.some.inj H
        go_wp2
        go_ret
        exact ⟨Z7, Zp⟩
       ·rw [if_neg c10] at H
        have c10b0 : (a0 == 3) = false := beq_eq_false_iff_ne.mpr c10
        have c10b1 : (a0 != 3) = true := bne_iff_ne.mpr c10
        by_cases c11 : a0 = 4
        ·rw [if_pos c11] at H
         have c11b0 : (a0 == 4) = true := beq_iff_eq.mpr c11
         have c11b1 : (a0 != 4) = false := bne_eq_false_iff_eq.mpr c11
         clear c11
         obtain rfl := Option.some.inj H
         go_wp2
         go_ret
         exact ⟨Z7, Zp⟩
        ·rw [if_neg c11] at H
         have c11b0 : (a0 == 4) = false := beq_eq_false_iff_ne.mpr c11
         have c11b1 : (a0 != 4) = true := bne_iff_ne.mpr c11
         obtain rfl := Option.some.inj H
         go_wp2
         go_ret
         exact ⟨Z7, Zp⟩
def Y1k.f (a0 : ByteArray) : Option (Bool) := (Y19.f a0).bind fun t101 => (some (!t101))
set_option maxHeartbeats 8000000 in
set_option maxRecDepth 100000 in
theorem Y1k.calls (a0 : ByteArray) (r : Bool) (w : World) (hT : Tabs w) (h : Y1k.f a0 = some r) :
  Calls Tryd.prog 99 #[.string a0] w fun e w' => e = .returned (.bool r) ∧ Below w.heap.size w w' := by
 have HT := Y0.mk hT
 clear hT
 have HB := Y0.mk (Below.refl w.heap.size w)
 have H : ((Y19.f a0).bind fun t101 => (some (!t101))) = some r := h
 clear h
 replace H := Option.bind_eq_some_iff.mp H
 obtain ⟨t101, A20, H⟩ := H
 replace H : (some (!t101)) = some r := H
 have A2 := Y0.mk A20
 clear A20
 obtain rfl := Option.some.inj H
 go_enter Tryd.func99, Tryd.ntmps99
 go_wp2_with (first | ((with_reducible refine Yn (f := 39) rfl ?_); refine YO (some 4) rfl rfl Tryd.func39 Z6 rfl #[.string a0] rfl Z0 ?_; (with_reducible refine (Y19.calls a0 t101 _ ?side1 A2.out).mono ?_); (case side1 => exact Zz); rintro e w3 ⟨rfl, hb⟩; refine ⟨_, rfl, ?_⟩; have n0_ := Y0.mk (Yb QB hb); clear HB; have HB := n0_; clear n0_; (try clear hb); (try clear hb2); (try clear hk); (try clear hi)))
 go_ret
 exact Z2d
def Yo.l0 : Nat → List ByteArray → Int → Int → Option (Int)
 | 0, _, _, _ => none
 | k + 1, x0, x7, x8 => if x8 < x7 then (if 0 ≤ x8 then (if x8 < (x0.length : Int) then ((Y1k.f (Y37 ByteArray.empty x0 x8)).bind fun t102 => (if t102 = true then (some x8) else (Yo.l0 k x0 x7 (wrap64 (x8 + 1))))) else (none)) else (none)) else (some (-1))
def Yo.f (k : Nat) (l0 : List ByteArray)  : Option (Int) := Yo.l0 k l0 (l0.length : Int) 0
theorem Yo.mono_l : ∀ k, (∀ y0 y1 y2, LeO (Yo.l0 k y0 y1 y2) (Yo.l0 (k + 1) y0 y1 y2))
 | 0 => fun _ _ _ r h => by simp [Yo.l0] at h
 | k + 1 => by
  have ih0 := Yo.mono_l k
  ·intro y0 y1 y2
   unfold Yo.l0
   exact QM
theorem Yo.mono : ∀ a0 k, LeO (Yo.f k a0) (Yo.f (k + 1) a0) := by
 intro a0 k
 have ih0 := Yo.mono_l k
 unfold Yo.f
 exact QM
set_option maxHeartbeats 8000000 in
set_option maxRecDepth 100000 in
theorem Yo.calls (k : Nat) (A0 : Option Addr) (c0 : Nat) (l0 : List ByteArray)  (r : Int) (w : World) (hT : Tabs w) (hr0 : Kd.C Kd.string w A0 l0.length l0) (hc0 : l0.length ≤ c0) (h : Yo.f k l0 = some r) :
  Calls Tryd.prog 114 #[.slice A0 l0.length c0, .func (.func 99) #[] #[]] w fun e w' => e = .returned (.int .i64 r) ∧ Below w.heap.size w w' := by
 have HT := Y0.mk hT
 clear hT
 have HR0 := Y0.mk hr0
 have HC0 := Y0.mk hc0
 clear hr0 hc0
 have HB := Y0.mk (Below.refl w.heap.size w)
 have H : (Yo.l0 k l0 (l0.length : Int) 0) = some r := h
 clear h
 have H' := Y0.mk H
 clear H
 go_enter Tryd.func114, Tryd.ntmps114
 go_wp2
 go_loopg [8] k (fun kq v8 w' => ∃ (x8_1 : Int), v8 = .int .i64 x8_1 ∧ Y0 (Yo.l0 kq l0 (l0.length : Int) x8_1 = some r) ∧ Y0 (kq ≤ k) ∧ Y0 (Below w.heap.size w w'))
 case atStart => exact ⟨(0), Z7, H', ⟨Nat.le_refl _⟩, ⟨QB⟩⟩
 case round =>
  clear H'
  try clear c1
  try clear p2
  obtain ⟨x8_1, rfl, HA, HK1, HB⟩ := hrel
  cases gk with
  | zero => exact absurd HA.out (by simp [Yo.l0])
  | succ k1 =>
   have H := HA.out
   clear HA
   simp only [Yo.l0] at H
   by_cases c3 : x8_1 < (l0.length : Int)
   ·rw [if_pos c3] at H
    have c3b0 : decide (x8_1 < (l0.length : Int)) = true := decide_eq_true c3
    clear c3
    by_cases c4 : 0 ≤ x8_1
    ·rw [if_pos c4] at H
     have c4b0 : decide (0 ≤ x8_1) = true := decide_eq_true c4
     clear c4
     by_cases c5 : x8_1 < (l0.length : Int)
     ·rw [if_pos c5] at H
      have c5b0 : decide (x8_1 < (l0.length : Int)) = true := decide_eq_true c5
      clear c5
      replace H := Option.bind_eq_some_iff.mp H
      obtain ⟨t102, A60, H⟩ := H
      replace H : (if t102 = true then (some x8_1) else (Yo.l0 k1 l0 (l0.length : Int) (wrap64 (x8_1 + 1)))) = some r := H
      have A6 := Y0.mk A60
      clear A60
      by_cases c7 : t102 = true
      ·subst c7
       have H1 : (some x8_1) = some r := by rw [if_pos rfl] at H; exact H
       clear H
       have H := H1
       clear H1
       obtain rfl := Option.some.inj H
       have p101 : 0 ≤ (x8_1 : Int) := of_decide_eq_true Z8
       have q101 : x8_1 < (l0.length : Int) := of_decide_eq_true Z8
       obtain ⟨ad101, e101, hx101_0⟩ := Kd.at_string HR0.out x8_1 p101 q101
       cases e101
       replace hx101_0 := Y18 HB.out hx101_0
       replace p101 := eq_true p101
       replace q101 := eq_true q101
       go_wp2_with (first | (go_at_call 99; (with_reducible refine (Y1k.calls (Y37 ByteArray.empty l0 x8_1) true _ ?side1 A6.out).mono ?_); (case side1 => exact Z3); rintro e w8 ⟨rfl, hb⟩; have n0_ := Y0.mk (Yb QB hb); clear HB; have HB := n0_; clear n0_; (try clear hb); (try clear hb2); (try clear hk); (try clear hi)))
       go_ret
       exact Z2d
      ·replace c7 := Bool.eq_false_iff.mpr c7
       subst c7
       have H1 : (Yo.l0 k1 l0 (l0.length : Int) (wrap64 (x8_1 + 1))) = some r := by rw [if_neg (show ¬ (false = true) by decide)] at H; exact H
       clear H
       have H := H1
       clear H1
       have H' := Y0.mk H
       clear H
       have p101 : 0 ≤ (x8_1 : Int) := of_decide_eq_true Z8
       have q101 : x8_1 < (l0.length : Int) := of_decide_eq_true Z8
       obtain ⟨ad101, e101, hx101_0⟩ := Kd.at_string HR0.out x8_1 p101 q101
       cases e101
       replace hx101_0 := Y18 HB.out hx101_0
       replace p101 := eq_true p101
       replace q101 := eq_true q101
       go_wp2_with (first | (go_at_call 99; (with_reducible refine (Y1k.calls (Y37 ByteArray.empty l0 x8_1) false _ ?side1 A6.out).mono ?_); (case side1 => exact Z3); rintro e w9 ⟨rfl, hb⟩; have n0_ := Y0.mk (Yb QB hb); clear HB; have HB := n0_; clear n0_; (try clear hb); (try clear hb2); (try clear hk); (try clear hi)))
       go_roundg k1
       case measure => have := HK1.out; omega
       case rel => exact ⟨(wrap64 (x8_1 + 1)), Z7, H', ⟨Z13⟩, ⟨QB⟩⟩
     ·rw [if_neg c5] at H
      exact ZA
    ·rw [if_neg c4] at H
     exact ZA
   ·rw [if_neg c3] at H
    have c3b0 : decide (x8_1 < (l0.length : Int)) = false := decide_eq_false c3
    clear c3
    obtain rfl := Option.some.inj H
    go_wp2
    go_ret
    exact Z2d
def Yy.f (k : Nat) (l0 : List ByteArray)  : Option (Bool) := (Yo.f k l0).bind fun t101 => (some (decide (t101 ≥ 0)))
theorem Yy.mono : ∀ a0 k, LeO (Yy.f k a0) (Yy.f (k + 1) a0) := by
 intro a0 k
 unfold Yy.f
 exact QM
set_option maxHeartbeats 8000000 in
set_option maxRecDepth 100000 in
theorem Yy.calls (k : Nat) (A0 : Option Addr) (c0 : Nat) (l0 : List ByteArray)  (r : Bool) (w : World) (hT : Tabs w) (hr0 : Kd.C Kd.string w A0 l0.length l0) (hc0 : l0.length ≤ c0) (h : Yy.f k l0 = some r) :
  Calls Tryd.prog 100 #[.slice A0 l0.length c0, .func (.func 99) #[] #[]] w fun e w' => e = .returned (.bool r) ∧ Below w.heap.size w w' := by
 have HT := Y0.mk hT
 clear hT
 have HR0 := Y0.mk hr0
 have HC0 := Y0.mk hc0
 clear hr0 hc0
 have HB := Y0.mk (Below.refl w.heap.size w)
 have H : ((Yo.f k l0).bind fun t101 => (some (decide (t101 ≥ 0)))) = some r := h
 clear h
 replace H := Option.bind_eq_some_iff.mp H
 obtain ⟨t101, A30, H⟩ := H
 replace H : (some (decide (t101 ≥ 0))) = some r := H
 have A3 := Y0.mk A30
 clear A30
 obtain rfl := Option.some.inj H
 go_enter Tryd.func100, Tryd.ntmps100
 go_wp2_with (first | ((with_reducible refine Yn (f := 114) rfl ?_); refine YO (some 7) rfl rfl Tryd.func114 Z6 rfl #[.slice A0 l0.length c0, .func (.func 99) #[] #[]] rfl Z0 ?_; (with_reducible refine (Yo.calls k _ _ l0  t101 _ ?side1 ?side2 ?side3 A3.out).mono ?_); (case side1 => exact Zz); (case side2 => repeat (first | exact HR0.out | (with_reducible refine Kd.C_alloc ?_ _) | (with_reducible refine Kd.C_drewN ?_ _) | (with_reducible refine Kd.C_drew ?_))); (case side3 => exact HC0.out); rintro e w4 ⟨rfl, hb⟩; refine ⟨_, rfl, ?_⟩; have n0_ := Y0.mk (Yb QB hb); clear HB; have HB := n0_; clear n0_; (try clear hb); (try clear hb2); (try clear hk); (try clear hi)))
 go_ret
 exact Z2d
mutual
def Yx.l0 : Nat → Int → Int → List (S37) → Int → Int → Option (Int)
 | 0, _, _, _, _, _ => none
 | k + 1, x1, x7, x67, x68, x69 => if x69 < x68 then (if 0 ≤ x69 then (if x69 < (x67.length : Int) then ((Yx.f k ((Yk x67 x69).f0) ((Yk x67 x69).f1) ((Yk x67 x69).f2) ((Yk x67 x69).f3) (wrap64 (x1 + 1))).bind fun t106 => (if t106 < 0 then (some (-1)) else (Yx.l0 k x1 (wrap64 (x7 + t106)) x67 x68 (wrap64 (x69 + 1))))) else (none)) else (none)) else (some x7)
def Yx.f : Nat → Int → ByteArray → List ByteArray → List (S37) → Int → Option (Int)
 | 0, _, _, _, _, _ => none
 | k + 1, a0_0, a0_1, l0_2, l0_3, a1 => if a1 > 5 then (some (-1)) else ((YI.f k a0_0).bind fun t102 => (if (l0_3.length : Int) = t102 then (if ((a0_0 == 1) == (a0_1.toList != ([] : List UInt8))) = true then (if ((a0_0 == 8) == (decide ((l0_2.length : Int) > 0))) = true then (if (l0_2.length : Int) > 4 then (some (-1)) else (if a0_1.toList = ([] : List UInt8) then ((Yy.f k l0_2).bind fun t103 => (if t103 = true then (some (-1)) else (Yx.l0 k a1 1 l0_3 (l0_3.length : Int) 0))) else ((Y1k.f a0_1).bind fun t107 => (if t107 = true then (some (-1)) else ((Yy.f k l0_2).bind fun t108 => (if t108 = true then (some (-1)) else (Yx.l0 k a1 1 l0_3 (l0_3.length : Int) 0))))))) else (some (-1))) else (some (-1))) else (some (-1))))
end
theorem Yx.mono_l : ∀ k, (∀ y0 y1 y2 y3 y4, LeO (Yx.f k y0 y1 y2 y3 y4) (Yx.f (k + 1) y0 y1 y2 y3 y4)) ∧ (∀ y0 y1 y2 y3 y4, LeO (Yx.l0 k y0 y1 y2 y3 y4) (Yx.l0 (k + 1) y0 y1 y2 y3 y4))
 | 0 => ⟨fun _ _ _ _ _ r h => by simp [Yx.f] at h, fun _ _ _ _ _ r h => by simp [Yx.l0] at h⟩
 | k + 1 => by
  obtain ⟨ih0, ih1⟩ := Yx.mono_l k
  refine ⟨?_, ?_⟩
  ·intro y0 y1 y2 y3 y4
   unfold Yx.f
   exact QM
  ·intro y0 y1 y2 y3 y4
   unfold Yx.l0
   exact QM
theorem Yx.mono : ∀ a0 a1 a2 a3 a4 k, LeO (Yx.f k a0 a1 a2 a3 a4) (Yx.f (k + 1) a0 a1 a2 a3 a4) := by
 intro a0 a1 a2 a3 a4 k
 obtain ⟨ih0, ih1⟩ := Yx.mono_l k
 exact ih0 a0 a1 a2 a3 a4
def Yx.T3 : Bool × List (List Nat × List Nat) := (true, [([], []), ([0], [0]), ([1], [1]), ([2], [2]), ([3, 2], [2, 3]), ([4, 2], [2, 4]), ([2], [2]), ([6, 2], [2, 6]), ([7, 2, 2], [2, 7]), ([5, 8, 2], [2, 5, 8]), ([2, 9], [2, 9]), ([10, 8], [10]), ([11], [11]), ([12, 11], [11, 12]), ([11, 13], [11, 13]), ([14, 11], [14]), ([15], [15]), ([16, 15], [15, 16]), ([15, 17], [15, 17]), ([18, 15], [18]), ([19], [19]), ([20, 19], [19, 20]), ([21, 19], [19, 21]), ([22, 19], [19, 22]), ([19, 23], [19, 23]), ([24, 19], [24]), ([25], [25]), ([26, 25], [25, 26]), ([27, 25], [25, 27]), ([28, 25, 25], [25, 28]), ([29], [29]), ([30, 29], [29, 30]), ([31, 29, 29], [29, 31]), ([29, 32, 25], [25, 29, 32]), ([25, 33], [25, 33]), ([34, 32], [34]), ([35], [35]), ([36, 35], [35, 36]), ([37, 35, 35], [35, 37]), ([35, 38], [35, 38])])
def Yx.B3 : List Nat := [0, 1, 3, 7, 15, 31, 7, 71, 199, 511, 1023, 2047, 4095, 8191, 16383, 32767, 65535, 131071, 262143, 524287, 1048575, 2097151, 4194303, 8388607, 16777215, 33554431, 67108863, 134217727, 268435455, 536870911, 1073741823, 2147483647, 4294967295, 8589934591, 17179869183, 34359738367, 68719476735, 137438953471, 274877906943, 549755813887]
theorem Yx.tab3 : Y3G .any (Y3Z Tryd.f62 3) = Yx.T3 := by kernel_rfl
theorem Yx.bits3 : Y22 Yx.T3.2 Yx.B3 = true := by kernel_rfl
end Go.Proofs.YtbpbfboaofkpaaaDoor.Print
end
