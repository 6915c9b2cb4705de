/- Proofs for this claim: printed by our driver and joined by pack.py; the last text holds the statement. -/
import Derived.Test.YtbpbfboaofkpaaaDoorQcQ5
section
namespace Go.Proofs.YtbpbfboaofkpaaaDoor.Print
open Go.RowKit Go.Proofs.YtbpbfboaofkpaaaDoorW.PrintWords Go.Proofs.YtbpbfboaofkpaaaDoorW.PrintLast Go.Proofs.YtbpbfboaofkpaaaDoorW.PrintMore
attribute [local go_sem] max2_int min2_int max_two min_two max_three min_three max_four min_four
set_option linter.unusedVariables false
set_option linter.unusedSimpArgs false
set_option maxHeartbeats 8000000 in
set_option maxRecDepth 100000 in
theorem Ya.step (k : Nat) (ih : ∀ j_ < k, Yj.Spec j_ ∧ Yp.Spec j_ ∧ Y9.Spec j_ ∧ Ya.Spec j_) : ∀ (g : Nat) (s0_0 : ByteArray) (s0_1 : Int) (s0_2 : Int) (s0_3 : Int) (a1 : Int) (r1 : Int) (r2 : ByteArray) (r3 : List ByteArray) (r4 : List (S37)) (r5 : ByteArray) (r6 : Int) (r7 : Int) (r8 : Int) (w0 w : World) (hI : YC w0 w g s0_0 s0_1 s0_2 s0_3) (hB : Below w0.heap.size w0 w) (hT : Tabs w0) (h : Ya.f k s0_0 s0_1 s0_2 s0_3 a1 = some (r1, r2, r3, r4, r5, r6, r7, r8)),
  Calls Tryd.prog 124 #[.pointer (some ⟨g, 0, none⟩), .int .i64 a1] w fun e w' => ∃ v2_ v3_ : Value, e = .returned (.agg #[.int .i64 r1, .string r2, v2_, v3_]) ∧ Kd.R Kd.string 9 w' w.heap.size (fun k_ => (w.heap.size ≤ k_)) v2_ r3 ∧ Kd.N k37 37 w' w.heap.size (fun k_ => (w.heap.size ≤ k_) ∧ some k_ ≠ (v2_ : Value).ownBlock) v3_ r4 ∧ YC w0 w' g r5 r6 r7 r8 ∧ Below w0.heap.size w0 w' ∧ Y1 w w' g none := by
 intro g s0_0 s0_1 s0_2 s0_3 a1 r1 r2 r3 r4 r5 r6 r7 r8 w0 w hI hB hT h
 cases k with
 | zero => exact absurd h (by simp [Ya.f])
 | succ k =>
 simp only [Ya.f] at h
 have HT := Y0.mk hT
 clear hT
 have hu37 := Tryd.underlying37
 have HI0 := Y0.mk hI
 have HK := Y0.mk (Y1.refl w g none)
 have HL := Y0.mk hB.size
 clear hI
 have HW0 := Y0.mk hB.size
 have HB := Y0.mk hB
 clear hB
 have H : ((Ye.f k s0_0 s0_1 s0_2 s0_3).bind fun bt208 => (if bt208.1 = 94 then (Ya.j0 k a1 bt208.1 bt208.1 (bt208.1 == 94) bt208.2.1 bt208.2.2.1 bt208.2.2.2.1 bt208.2.2.2.2) else (Ya.j0 k a1 bt208.1 bt208.1 (bt208.1 == 40) bt208.2.1 bt208.2.2.1 bt208.2.2.2.1 bt208.2.2.2.2))) = some (r1, r2, r3, r4, r5, r6, r7, r8) := h
 clear h
 replace H := Option.bind_eq_some_iff.mp H
 obtain ⟨⟨t208, t209, t210, t211, t212⟩, A30, H⟩ := H
 replace H : (if t208 = 94 then (Ya.j0 k a1 t208 t208 (t208 == 94) t209 t210 t211 t212) else (Ya.j0 k a1 t208 t208 (t208 == 40) t209 t210 t211 t212)) = some (r1, r2, r3, r4, r5, r6, r7, r8) := H
 have A3 := Y0.mk A30
 clear A30
 have HC4 := Y0.mk H
 clear H
 go_enter Tryd.func124, Tryd.ntmps124
 go_upto_if 10 with (first | ((with_reducible refine YF (N := 4) rfl ?_); refine YD ?hg (N := 4) ?hd (cs := #[.int .i64 0, .string (⟨#[]⟩ : ByteArray), .slice none 0 0, .slice none 0 0]) (t := 37) ?hr ?_; (case hd => rfl); (case hg => rfl); (case hr => exact Zb); intro gb207 hg w5 hbox hb; have n_ := Y4q (YC.below QI81_0 hb) (Y1.trans QK (Y1.of_below hb g none) (.inl rfl)) (Y8 QB hb) (hbox) ((by rw [hg]; exact (Y7 (w := w) (g := g) (row := none) QK) : w.heap.size ≤ gb207)) ((Nat.le_trans HW0.out (by rw [hg]; exact (Y7 (w := w) (g := g) (row := none) QK) : w.heap.size ≤ gb207) : w0.heap.size ≤ gb207)) ((by rw [hg]; exact Nat.ne_of_lt (YC.lt (show YC w0 _ g s0_0 s0_1 s0_2 s0_3 from QI81_0)) : g ≠ gb207)) ((by rw [hg]; exact Nat.ne_of_gt (YC.lt (show YC w0 _ g s0_0 s0_1 s0_2 s0_3 from QI81_0)) : gb207 ≠ g)); clear HI0 HK HB; obtain ⟨HI0, HK, HB, BK207, GW207, GE207, NB0_207, NB207_0⟩ := n_; clear hb hbox hg) | ((with_reducible refine Yl (f := 56) rfl ?_); refine YO (some 8) rfl rfl Tryd.func56 Z4 rfl #[.pointer (some ⟨g, 0, none⟩)] rfl Z0 ?_; (with_reducible refine (Ye.calls k g s0_0 s0_1 s0_2 s0_3 t208 t209 t210 t211 t212 w0 _ ?side1 ?side2 A3.out).mono ?_); (case side1 => exact Z1u); (case side2 => exact QB); rintro e w6 ⟨rfl, hi, hb, hk⟩; refine ⟨_, rfl, ?_⟩; have n_ := Y2N (Y1.blk hk (g' := gb207) (o := .cells #[.int .i64 0, .string (⟨#[]⟩ : ByteArray), .slice none 0 0, .slice none 0 0] 37 (0, 0)) QQ NB207_0.out (by simp)) (Y1.trans QK hk (.inl rfl)) (hb) (hi); clear BK207 HK HB HI0; obtain ⟨BK207, HK, HB, HI0⟩ := n_; (try clear hb); (try clear hb2); (try clear hk); (try clear hi)))
 (try simp only [Act.put, List.setIfInBounds_toArray, List.set_cons_zero, List.set_cons_succ])
 go_cut [10] (fun v10 wc => ∃ (kq : Nat) (x10_3 : Bool), v10 = .bool x10_3 ∧ Y0 (Ya.j0 kq a1 t208 t208 x10_3 t209 t210 t211 t212 = some (r1, r2, r3, r4, r5, r6, r7, r8)) ∧ Y0 (kq ≤ k) ∧ Y0 (wc.heap[gb207]? = some (.cells #[.int .i64 0, .string (⟨#[]⟩ : ByteArray), (.slice none 0 0), (.slice none 0 0)] 37 (0, 0))) ∧ Y0 (YC w0 wc g t209 t210 t211 t212) ∧ Y0 (Y1 w wc g none) ∧ Y0 (Below w0.heap.size w0 wc))
 case first =>
  have H := HC4.out
  clear HC4
  by_cases c7 : t208 = 94
  ·rw [if_pos c7] at H
   have c7b0 : (t208 == 94) = true := beq_iff_eq.mpr c7
   have c7b1 : (t208 != 94) = false := bne_eq_false_iff_eq.mpr c7
   clear c7
   (first | rw [c7b0] | (simp only [Y16, Y17]; rw [c7b0]) | skip)
   have H' := Y0.mk H
   clear H
   go_wp2
   go_meet
   case rel => exact ⟨_, ((t208 == 94)), Z8, H', ⟨Zr⟩, ⟨Z1S⟩, ⟨QI81_0⟩, ⟨QK⟩, ⟨QB⟩⟩
  ·rw [if_neg c7] at H
   have c7b0 : (t208 == 94) = false := beq_eq_false_iff_ne.mpr c7
   have c7b1 : (t208 != 94) = true := bne_iff_ne.mpr c7
   (first | rw [c7b0] | (simp only [Y16, Y17]; rw [c7b0]) | skip)
   have H' := Y0.mk H
   clear H
   go_wp2
   go_meet
   case rel => exact ⟨_, ((t208 == 40)), Z8, H', ⟨Zr⟩, ⟨Z1S⟩, ⟨QI81_0⟩, ⟨QK⟩, ⟨QB⟩⟩
 case rest =>
  clear HC4
  try clear c1
  try clear p2
  try clear c5
  try clear c7
  try clear c7b0
  try clear c7b1
  obtain ⟨kq, x10_3, rfl, HA, HJ3, BK207, HI0, HK, HB⟩ := hcut
  cases kq with
  | zero => exact absurd HA.out (by simp [Ya.j0])
  | succ kj3 =>
   have H := HA.out
   clear HA
   simp only [Ya.j0] at H
   by_cases c8 : x10_3 = true
   ·subst c8
    have H1 : (if a1 ≥ 5 then ((Yu.f t209 t210 t211 t212 t210 3).bind fun bt213 => (some (bt213.1, bt213.2.1, bt213.2.2.1, bt213.2.2.2.1, bt213.2.2.2.2.1, bt213.2.2.2.2.2.1, bt213.2.2.2.2.2.2.1, bt213.2.2.2.2.2.2.2))) else (if t208 = 94 then ((Ya.f kj3 t209 (wrap64 (t210 + 1)) t211 t212 (wrap64 (a1 + 1))).bind fun bt225 => (some (2, (⟨#[]⟩ : ByteArray), ([] : List ByteArray), (([(⟨bt225.1, bt225.2.1, bt225.2.2.1, bt225.2.2.2.1⟩ : S37)] : List (S37))), bt225.2.2.2.2.1, bt225.2.2.2.2.2.1, bt225.2.2.2.2.2.2.1, bt225.2.2.2.2.2.2.2))) else ((Yj.f kj3 t209 (wrap64 (t210 + 1)) t211 t212 (wrap64 (a1 + 1))).bind fun bt240 => ((Yn.f kj3 bt240.2.2.2.2.1 bt240.2.2.2.2.2.1 bt240.2.2.2.2.2.2.1 bt240.2.2.2.2.2.2.2 41).bind fun bt253 => (if bt253.1 = true then (some (bt240.1, bt240.2.1, bt240.2.2.1, bt240.2.2.2.1, bt253.2.1, bt253.2.2.1, bt253.2.2.2.1, bt253.2.2.2.2)) else ((Yu.f bt253.2.1 bt253.2.2.1 bt253.2.2.2.1 bt253.2.2.2.2 bt253.2.2.1 2).bind fun bt258 => (some (bt258.1, bt258.2.1, bt258.2.2.1, bt258.2.2.2.1, bt258.2.2.2.2.1, bt258.2.2.2.2.2.1, bt258.2.2.2.2.2.2.1, bt258.2.2.2.2.2.2.2)))))))) = some (r1, r2, r3, r4, r5, r6, r7, r8) := by rw [if_pos rfl] at H; exact H
    clear H
    have H := H1
    clear H1
    by_cases c9 : a1 ≥ 5
    ·rw [if_pos c9] at H
     have c9b0 : decide (5 ≤ a1) = true := decide_eq_true c9
     clear c9
     replace H := Option.bind_eq_some_iff.mp H
     obtain ⟨⟨t213, t214, t215, t218, t221, t222, t223, t224⟩, A100, H⟩ := H
     replace H : (some (t213, t214, t215, t218, t221, t222, t223, t224)) = some (r1, r2, r3, r4, r5, r6, r7, r8) := H
     have A10 := Y0.mk A100
     clear A100
     simp only [Option.some.injEq, Prod.mk.injEq] at H
     obtain ⟨rfl, rfl, rfl, rfl, rfl, rfl, rfl, rfl⟩ := H
     obtain ⟨hcz11_0, hcz11_1, hcz11_2, hcz11_3, hfz11_0, hfz11_1, hfz11_2, hfz11_3⟩ := YA HI0.out.1
     go_wp2_with (first | ((with_reducible refine Yl (f := 57) rfl ?_); refine YO (some 20) rfl rfl Tryd.func57 Z4 rfl #[.pointer (some ⟨g, 0, none⟩), .int .i64 t210, .int .i64 3] rfl Z0 ?_; (with_reducible refine (Yu.calls g t209 t210 t211 t212 t210 3 t213 t214 t215 t218 t221 t222 t223 t224 w0 _ ?side1 ?side2 A10.out).mono ?_); (case side1 => exact Z1u); (case side2 => exact QB); rintro e w12 ⟨v216, v219, rfl, ho0, ho1, hi, hb, hk⟩; refine ⟨_, rfl, ?_⟩; have n0_ := Y0.mk (Y1.blk hk (g' := gb207) (o := .cells #[.int .i64 0, .string (⟨#[]⟩ : ByteArray), .slice none 0 0, .slice none 0 0] 37 (0, 0)) QQ NB207_0.out (by simp)); have n1_ := Y0.mk (Kd.R_lower (Kd.R_newM (M := fun k_ => (w.heap.size ≤ k_)) (Kd.R_mono (ok' := fun k_ => True) ho0 (fun _ hk_ => trivial)) (Y7 (w := w) (g := g) (row := none) QK) (fun k_ h_ => h_)) (Y7 (w := w) (g := g) (row := none) QK)); have n2_ := Y0.mk (Kd.N_lower (Kd.N_mono (ok' := fun k_ => (w.heap.size ≤ k_) ∧ some k_ ≠ (v216 : Value).ownBlock ∧ k_ ≠ gb207 ∧ k_ ≠ g) ho1 (fun k_ hk_ => ⟨(Nat.le_trans (Y7 (w := w) (g := g) (row := none) QK) hk_.1), hk_.2, (Kd.freshB (g := gb207) (o := .cells #[.int .i64 0, .string (⟨#[]⟩ : ByteArray), .slice none 0 0, .slice none 0 0] 37 (0, 0)) QQ k_ hk_.1), (YC.fresh QI81_0 k_ hk_.1)⟩)) (Y7 (w := w) (g := g) (row := none) QK)); have n3_ := Y0.mk (Y1.trans QK hk (.inl rfl)); have n4_ := Y0.mk (hb); have n5_ := Y0.mk (hi); clear BK207 HK HB HI0; have BK207 := n0_; have HO217 := n1_; have HO220 := n2_; have HK := n3_; have HB := n4_; have HI0 := n5_; clear n0_ n1_ n2_ n3_ n4_ n5_; (try clear hb); (try clear hb2); (try clear hk); (try clear hi); (try clear ho0); (try clear ho1); have hnb13 := NB207_0.out; have hnc13 := NB0_207.out; obtain ⟨hcz14_0, hcz14_1, hcz14_2, hcz14_3, hfz14_0, hfz14_1, hfz14_2, hfz14_3⟩ := YA BK207.out; obtain ⟨Ao15, co15, eo15⟩ := Kd.R_slice HO217.out; subst eo15; obtain ⟨Ao16, co16, eo16⟩ := Kd.N_slice HO220.out; subst eo16))
     refine bodyPost_ret (results_cell_row rfl _ _ gb207 37 #[.int .i64 t213, .string t214, .slice Ao15 t215.length co15, .slice Ao16 t218.length co16] (0, 0) _ rfl (by (with_reducible repeat (first | refine Yh ?_ _ | refine Yb ?_ | refine Yd ?_ _)); exact YE (cs := #[.int .i64 t213, .string t214, .slice Ao15 t215.length co15, .slice none 0 0]) (by (with_reducible repeat (first | refine Yh ?_ _ | refine Yb ?_ | refine Yd ?_ _)); exact YE (cs := #[.int .i64 t213, .string t214, .slice none 0 0, .slice none 0 0]) (by (with_reducible repeat (first | refine Yh ?_ _ | refine Yb ?_ | refine Yd ?_ _)); exact YE (cs := #[.int .i64 t213, .string (⟨#[]⟩ : ByteArray), .slice none 0 0, .slice none 0 0]) Z1 1 _ rfl) 2 _ rfl) 3 _ rfl) Tryd.underlying37 rfl Z4) rfl ?_
     exact ⟨_, _, Z2, by (with_reducible repeat (first | apply Kd.R_alloc | apply Kd.R_drewN | apply Kd.R_drew)); exact Kd.R_mono (Kd.R_far (p := ⟨gb207, 3, none⟩) (Kd.R_far (p := ⟨gb207, 2, none⟩) (Kd.R_far (p := ⟨gb207, 1, none⟩) (Kd.R_far (p := ⟨gb207, 0, none⟩) (Kd.R_types HO217.out BK207.out (by decide)) (fun _ hk => hk.2) (.int .i64 t213)) (fun _ hk => hk.2) (.string t214)) (fun _ hk => hk.2) (.slice Ao15 t215.length co15)) (fun _ hk => hk.2) (.slice Ao16 t218.length co16)) (fun _ hk => hk.1.1), by (with_reducible repeat (first | apply Kd.N_alloc | apply Kd.N_drewN | apply Kd.N_drew)); exact Kd.N_mono (Kd.N_far (p := ⟨gb207, 3, none⟩) (Kd.N_far (p := ⟨gb207, 2, none⟩) (Kd.N_far (p := ⟨gb207, 1, none⟩) (Kd.N_far (p := ⟨gb207, 0, none⟩) (Kd.N_mono HO220.out (fun k_ hk => (⟨hk, hk.2.2.1⟩ : _ ∧ k_ ≠ gb207))) (fun _ hk => hk.2) (.int .i64 t213)) (fun _ hk => hk.2) (.string t214)) (fun _ hk => hk.2) (.slice Ao15 t215.length co15)) (fun _ hk => hk.2) (.slice Ao16 t218.length co16)) (fun _ hk => ⟨hk.1.1, hk.1.2.1⟩), QI81_0, QB, QK⟩
    ·rw [if_neg c9] at H
     have c9b0 : decide (5 ≤ a1) = false := decide_eq_false c9
     clear c9
     by_cases c17 : t208 = 94
     ·rw [if_pos c17] at H
      have c17b0 : (t208 == 94) = true := beq_iff_eq.mpr c17
      have c17b1 : (t208 != 94) = false := bne_eq_false_iff_eq.mpr c17
      clear c17
      replace H := Option.bind_eq_some_iff.mp H
      obtain ⟨⟨t225, t226, t227, t230, t233, t234, t235, t236⟩, A180, H⟩ := H
      replace H : (some (2, (⟨#[]⟩ : ByteArray), ([] : List ByteArray), (([(⟨t225, t226, t227, t230⟩ : S37)] : List (S37))), t233, t234, t235, t236)) = some (r1, r2, r3, r4, r5, r6, r7, r8) := H
      have A18 := Y0.mk A180
      clear A180
      obtain ⟨y237, hy237⟩ : ∃ y_ : List (S37), y_ = (([(⟨t225, t226, t227, t230⟩ : S37)] : List (S37))) := ⟨_, rfl⟩
      replace H : (some (2, (⟨#[]⟩ : ByteArray), ([] : List ByteArray), y237, t233, t234, t235, t236)) = some (r1, r2, r3, r4, r5, r6, r7, r8) := by first | (rw [hy237]; with_reducible exact H) | (have H2_ := (Option.bind_some _ _).symm.trans H; rw [hy237]; with_reducible exact H2_) | (have H2_ := (Option.bind_some _ _).symm.trans H; with_reducible exact H2_) | with_reducible exact H | (rw [hy237]; exact H) | exact H
      have Ny237 := Y0.mk hy237
      clear hy237
      simp only [Option.some.injEq, Prod.mk.injEq] at H
      obtain ⟨rfl, rfl, rfl, rfl, rfl, rfl, rfl, rfl⟩ := H
      obtain ⟨hcz19_0, hcz19_1, hcz19_2, hcz19_3, hfz19_0, hfz19_1, hfz19_2, hfz19_3⟩ := YA HI0.out.1
      go_wp2_with (first | ((with_reducible refine Yl (f := 124) rfl ?_); refine YO (some 33) rfl rfl Tryd.func124 Z4 rfl #[.pointer (some ⟨g, 0, none⟩), .int .i64 (wrap64 (a1 + 1))] rfl Z0 ?_; (with_reducible refine ((ih kj3 (by have := HJ3.out; omega)).2.2.2 g t209 (wrap64 (t210 + 1)) t211 t212 (wrap64 (a1 + 1)) t225 t226 t227 t230 t233 t234 t235 t236 w0 _ ?side1 ?side2 ?side3 A18.out).mono ?_); (case side1 => exact Z1u); (case side2 => exact QB); (case side3 => exact Z22); rintro e w20 ⟨v228, v231, rfl, ho0, ho1, hi, hb, hk⟩; refine ⟨_, rfl, ?_⟩; have n0_ := Y0.mk (Y1.blk hk (g' := gb207) (o := .cells #[.int .i64 0, .string (⟨#[]⟩ : ByteArray), .slice none 0 0, .slice none 0 0] 37 (0, 0)) ZA NB207_0.out (by simp)); have n1_ := Y0.mk (Kd.R_lower (Kd.R_newM (M := fun k_ => (w.heap.size ≤ k_)) (Kd.R_mono (ok' := fun k_ => True) ho0 (fun _ hk_ => trivial)) (Y7 (w := w) (g := g) (row := none) QK) (fun k_ h_ => h_)) (Y7 (w := w) (g := g) (row := none) QK)); have n2_ := Y0.mk (Kd.N_lower (Kd.N_mono (ok' := fun k_ => (w.heap.size ≤ k_) ∧ some k_ ≠ (v228 : Value).ownBlock ∧ k_ ≠ gb207 ∧ k_ ≠ g) ho1 (fun k_ hk_ => ⟨(Nat.le_trans (Y7 (w := w) (g := g) (row := none) QK) hk_.1), hk_.2, (Kd.freshB (g := gb207) (o := .cells #[.int .i64 0, .string (⟨#[]⟩ : ByteArray), .slice none 0 0, .slice none 0 0] 37 (0, 0)) ZA k_ hk_.1), (YC.fresh QI81_0 k_ hk_.1)⟩)) (Y7 (w := w) (g := g) (row := none) QK)); have n3_ := Y0.mk (Y1.trans QK hk (.inl rfl)); have n4_ := Y0.mk (hb); have n5_ := Y0.mk (hi); clear BK207 HK HB HI0; have BK207 := n0_; have HO229 := n1_; have HO232 := n2_; have HK := n3_; have HB := n4_; have HI0 := n5_; clear n0_ n1_ n2_ n3_ n4_ n5_; (try clear hb); (try clear hb2); (try clear hk); (try clear hi); (try clear ho0); (try clear ho1); obtain ⟨Ao21, co21, eo21⟩ := Kd.R_slice HO229.out; subst eo21; obtain ⟨Ao22, co22, eo22⟩ := Kd.N_slice HO232.out; subst eo22) | ((with_reducible refine YF (N := 34) rfl ?_); refine Kd.N_lit k37 _ 37 ?hg (N' := 34) ?hd (xs := ([(⟨t225, t226, t227, t230⟩ : S37)] : List (S37))) (inner := [.int .i64 t225, .string t226, .slice Ao21 t227.length co21, .slice Ao22 t230.length co22]) (ok := (fun k_ => (w.heap.size ≤ k_) ∧ k_ ≠ gb207 ∧ k_ ≠ g)) (okp := (fun k_ => (w.heap.size ≤ k_) ∧ k_ ≠ gb207 ∧ k_ ≠ g)) ?hr ?hp (fun _ hk => hk) ((show ∀ k_, w20.heap.size ≤ k_ → (fun k_ => (w.heap.size ≤ k_) ∧ k_ ≠ gb207 ∧ k_ ≠ g) k_ from fun k_ hk => ⟨(Nat.le_trans (Y7 (w := w) (g := g) (row := none) QK) hk), Kd.freshB (g := gb207) (o := .cells #[.int .i64 0, .string (⟨#[]⟩ : ByteArray), .slice none 0 0, .slice none 0 0] 37 (0, 0)) QQ k_ hk, YC.fresh QI81_0 k_ hk⟩) _ (Nat.le_refl _)) (Below.refl _ _) (Nat.le_refl _) (by simp) ?_; (case hd => rfl); (case hg => rfl); (case hr => exact Zb); (case hp => exact (Y1F.c4 (show Kd.FK k37 _ _ (⟨t225, t226, t227, t230⟩ : S37) [.int .i64 t225, .string t226, .slice Ao21 t227.length co21, .slice Ao22 t230.length co22] from (Y2g _ _ (⟨t225, t226, t227, t230⟩ : S37) (Kd.R_reads' (Kd.R_mono (ok' := (fun k_ => (w.heap.size ≤ k_) ∧ k_ ≠ gb207 ∧ k_ ≠ g)) (YC.apart HI0.out (Kd.R_types (HO229.out) BK207.out (by decide)) (by decide)) (fun k_ hk => ⟨hk.1.1.1, ⟨hk.1.2, hk.2⟩⟩))).2.1 (Kd.R_F (Kd.R_mono (ok' := (fun k_ => (w.heap.size ≤ k_) ∧ k_ ≠ gb207 ∧ k_ ≠ g)) (YC.apart HI0.out (Kd.R_types (HO229.out) BK207.out (by decide)) (by decide)) (fun k_ hk => ⟨hk.1.1.1, ⟨hk.1.2, hk.2⟩⟩))) (Kd.N_reads' (Kd.N_mono (ok' := (fun k_ => (w.heap.size ≤ k_) ∧ k_ ≠ gb207 ∧ k_ ≠ g)) (HO232.out) (fun k_ hk => ⟨hk.1, ⟨hk.2.2.1, hk.2.2.2⟩⟩))).2.1 (Kd.N_F (Kd.N_mono (ok' := (fun k_ => (w.heap.size ≤ k_) ∧ k_ ≠ gb207 ∧ k_ ≠ g)) (HO232.out) (fun k_ hk => ⟨hk.1, ⟨hk.2.2.1, hk.2.2.2⟩⟩))))) (Y1F.none _ _))); intro v238 w23 ho24 hb hg_ hnew_; clear hg_ hnew_; (first | rw [← Ny237.out] at ho24 | (simp only [Int.reduceToNat] at ho24; rw [← Ny237.out] at ho24)); have n_ := Y4L (Kd.N_lower ho24 (Y7 (w := w) (g := g) (row := none) QK)) (Yt (g := gb207) (o := .cells #[.int .i64 0, .string (⟨#[]⟩ : ByteArray), .slice none 0 0, .slice none 0 0] 37 (0, 0)) QQ hb) (YC.below QI81_0 hb) (Y1.trans QK (Y1.of_below hb g none) (.inl rfl)) (Y8 QB hb); clear BK207 HI0 HK HB HO229 HO232; obtain ⟨HO239, BK207, HI0, HK, HB⟩ := n_; clear hb ho24; obtain ⟨Ao25, co25, eo25⟩ := Kd.N_slice HO239.out; subst eo25; have hnb26 := NB207_0.out; have hnc26 := NB0_207.out; obtain ⟨hcz27_0, hcz27_1, hcz27_2, hcz27_3, hfz27_0, hfz27_1, hfz27_2, hfz27_3⟩ := YA BK207.out))
      refine bodyPost_ret (results_cell_row rfl _ _ gb207 37 #[.int .i64 2, .string (⟨#[]⟩ : ByteArray), .slice none 0 0, .slice Ao25 y237.length co25] (0, 0) _ rfl Z2j Tryd.underlying37 rfl Z4) rfl ?_
      exact ⟨_, _, Z2, Z5, by (with_reducible repeat (first | apply Kd.N_alloc | apply Kd.N_drewN | apply Kd.N_drew)); exact Kd.N_mono (Kd.N_far (p := ⟨gb207, 3, none⟩) (Kd.N_far (p := ⟨gb207, 2, none⟩) (Kd.N_far (p := ⟨gb207, 1, none⟩) (Kd.N_far (p := ⟨gb207, 0, none⟩) (Kd.N_mono HO239.out (fun k_ hk => (⟨hk, hk.2.1⟩ : _ ∧ k_ ≠ gb207))) (fun _ hk => hk.2) (.int .i64 2)) (fun _ hk => hk.2) (.string (⟨#[]⟩ : ByteArray))) (fun _ hk => hk.2) (.slice none 0 0)) (fun _ hk => hk.2) (.slice Ao25 y237.length co25)) (fun _ hk => ⟨hk.1.1, Z2p⟩), QI81_0, QB, QK⟩
     ·rw [if_neg c17] at H
      have c17b0 : (t208 == 94) = false := beq_eq_false_iff_ne.mpr c17
      have c17b1 : (t208 != 94) = true := bne_iff_ne.mpr c17
      replace H := Option.bind_eq_some_iff.mp H
      obtain ⟨⟨t240, t241, t242, t245, t248, t249, t250, t251⟩, A280, H⟩ := H
      replace H : ((Yn.f kj3 t248 t249 t250 t251 41).bind fun bt253 => (if bt253.1 = true then (some (t240, t241, t242, t245, bt253.2.1, bt253.2.2.1, bt253.2.2.2.1, bt253.2.2.2.2)) else ((Yu.f bt253.2.1 bt253.2.2.1 bt253.2.2.2.1 bt253.2.2.2.2 bt253.2.2.1 2).bind fun bt258 => (some (bt258.1, bt258.2.1, bt258.2.2.1, bt258.2.2.2.1, bt258.2.2.2.2.1, bt258.2.2.2.2.2.1, bt258.2.2.2.2.2.2.1, bt258.2.2.2.2.2.2.2))))) = some (r1, r2, r3, r4, r5, r6, r7, r8) := H
      have A28 := Y0.mk A280
      clear A280
      replace H := Option.bind_eq_some_iff.mp H
      obtain ⟨⟨t253, t254, t255, t256, t257⟩, A290, H⟩ := H
      replace H : (if t253 = true then (some (t240, t241, t242, t245, t254, t255, t256, t257)) else ((Yu.f t254 t255 t256 t257 t255 2).bind fun bt258 => (some (bt258.1, bt258.2.1, bt258.2.2.1, bt258.2.2.2.1, bt258.2.2.2.2.1, bt258.2.2.2.2.2.1, bt258.2.2.2.2.2.2.1, bt258.2.2.2.2.2.2.2)))) = some (r1, r2, r3, r4, r5, r6, r7, r8) := H
      have A29 := Y0.mk A290
      clear A290
      by_cases c30 : t253 = true
      ·subst c30
       have H1 : (some (t240, t241, t242, t245, t254, t255, t256, t257)) = some (r1, r2, r3, r4, r5, r6, r7, r8) := by rw [if_pos rfl] at H; exact H
       clear H
       have H := H1
       clear H1
       simp only [Option.some.injEq, Prod.mk.injEq] at H
       obtain ⟨rfl, rfl, rfl, rfl, rfl, rfl, rfl, rfl⟩ := H
       obtain ⟨hcz31_0, hcz31_1, hcz31_2, hcz31_3, hfz31_0, hfz31_1, hfz31_2, hfz31_3⟩ := YA HI0.out.1
       go_wp2_with (first | ((with_reducible refine Yl (f := 55) rfl ?_); refine YO (some 39) rfl rfl Tryd.func55 Z4 rfl #[.pointer (some ⟨g, 0, none⟩), .int .i64 (wrap64 (a1 + 1))] rfl Z0 ?_; (with_reducible refine ((ih kj3 (by have := HJ3.out; omega)).1 g t209 (wrap64 (t210 + 1)) t211 t212 (wrap64 (a1 + 1)) t240 t241 t242 t245 t248 t249 t250 t251 w0 _ ?side1 ?side2 ?side3 A28.out).mono ?_); (case side1 => exact Z1u); (case side2 => exact QB); (case side3 => exact Z22); rintro e w32 ⟨v243, v246, rfl, ho0, ho1, hi, hb, hk⟩; refine ⟨_, rfl, ?_⟩; have n0_ := Y0.mk (Y1.blk hk (g' := gb207) (o := .cells #[.int .i64 0, .string (⟨#[]⟩ : ByteArray), .slice none 0 0, .slice none 0 0] 37 (0, 0)) ZA NB207_0.out (by simp)); have n1_ := Y0.mk (Kd.R_lower (Kd.R_newM (M := fun k_ => (w.heap.size ≤ k_)) (Kd.R_mono (ok' := fun k_ => True) ho0 (fun _ hk_ => trivial)) (Y7 (w := w) (g := g) (row := none) QK) (fun k_ h_ => h_)) (Y7 (w := w) (g := g) (row := none) QK)); have n2_ := Y0.mk (Kd.N_lower (Kd.N_mono (ok' := fun k_ => (w.heap.size ≤ k_) ∧ some k_ ≠ (v243 : Value).ownBlock ∧ k_ ≠ gb207 ∧ k_ ≠ g) ho1 (fun k_ hk_ => ⟨(Nat.le_trans (Y7 (w := w) (g := g) (row := none) QK) hk_.1), hk_.2, (Kd.freshB (g := gb207) (o := .cells #[.int .i64 0, .string (⟨#[]⟩ : ByteArray), .slice none 0 0, .slice none 0 0] 37 (0, 0)) ZA k_ hk_.1), (YC.fresh QI81_0 k_ hk_.1)⟩)) (Y7 (w := w) (g := g) (row := none) QK)); have n3_ := Y0.mk (Y1.trans QK hk (.inl rfl)); have n4_ := Y0.mk (hb); have n5_ := Y0.mk (hi); clear BK207 HK HB HI0; have BK207 := n0_; have HO244 := n1_; have HO247 := n2_; have HK := n3_; have HB := n4_; have HI0 := n5_; clear n0_ n1_ n2_ n3_ n4_ n5_; (try clear hb); (try clear hb2); (try clear hk); (try clear hi); (try clear ho0); (try clear ho1)) | ((with_reducible refine YF (N := 6) rfl ?_); refine YD ?hg (N := 6) ?hd (cs := #[.int .i64 0, .string (⟨#[]⟩ : ByteArray), .slice none 0 0, .slice none 0 0]) (t := 37) ?hr ?_; (case hd => rfl); (case hg => rfl); (case hr => exact Zb); intro gb252 hg w33 hbox hb; have n0_ := Y0.mk (Kd.R_below Z1b hb); have n1_ := Y0.mk (Kd.N_below (Kd.N_elderB Z1g gb252 (Nat.le_of_eq hg.symm)) hb); have n2_ := Y0.mk (Yt (g := gb207) (o := .cells #[.int .i64 0, .string (⟨#[]⟩ : ByteArray), .slice none 0 0, .slice none 0 0] 37 (0, 0)) QQ hb); have n3_ := Y0.mk (YC.below QI81_0 hb); have n4_ := Y0.mk (Y1.trans QK (Y1.of_below hb g none) (.inl rfl)); have n5_ := Y0.mk (Y8 QB hb); have n6_ := Y0.mk (hbox); have n7_ := Y0.mk ((by rw [hg]; exact (Y7 (w := w) (g := g) (row := none) QK) : w.heap.size ≤ gb252)); have n8_ := Y0.mk ((Nat.le_trans HW0.out (by rw [hg]; exact (Y7 (w := w) (g := g) (row := none) QK) : w.heap.size ≤ gb252) : w0.heap.size ≤ gb252)); have n9_ := Y0.mk ((by rw [hg]; exact Nat.ne_of_lt (Y14 (g := gb207) (o := .cells #[.int .i64 0, .string (⟨#[]⟩ : ByteArray), .slice none 0 0, .slice none 0 0] 37 (0, 0)) QQ) : gb207 ≠ gb252)); have n10_ := Y0.mk ((by rw [hg]; exact Nat.ne_of_gt (Y14 (g := gb207) (o := .cells #[.int .i64 0, .string (⟨#[]⟩ : ByteArray), .slice none 0 0, .slice none 0 0] 37 (0, 0)) QQ) : gb252 ≠ gb207)); have n11_ := Y0.mk ((by rw [hg]; exact Nat.ne_of_lt (YC.lt (show YC w0 _ g t248 t249 t250 t251 from QI81_0)) : g ≠ gb252)); have n12_ := Y0.mk ((by rw [hg]; exact Nat.ne_of_gt (YC.lt (show YC w0 _ g t248 t249 t250 t251 from QI81_0)) : gb252 ≠ g)); clear HO244 HO247 BK207 HI0 HK HB; have HO244 := n0_; have HO247 := n1_; have BK207 := n2_; have HI0 := n3_; have HK := n4_; have HB := n5_; have BK252 := n6_; have GW252 := n7_; have GE252 := n8_; have NB207_252 := n9_; have NB252_207 := n10_; have NB0_252 := n11_; have NB252_0 := n12_; clear n0_ n1_ n2_ n3_ n4_ n5_ n6_ n7_ n8_ n9_ n10_ n11_ n12_ hb hbox hg; have hnb34 := NB252_207.out; have hnc34 := NB207_252.out; have hnb35 := NB252_0.out; have hnc35 := NB0_252.out; obtain ⟨hcz36_0, hcz36_1, hcz36_2, hcz36_3, hfz36_0, hfz36_1, hfz36_2, hfz36_3⟩ := YA BK252.out; obtain ⟨Ao37, co37, eo37⟩ := Kd.R_slice HO244.out; subst eo37; obtain ⟨Ao38, co38, eo38⟩ := Kd.N_slice HO247.out; subst eo38) | ((with_reducible refine Yl (f := 97) rfl ?_); refine YO (some 41) rfl rfl Tryd.func97 Z4 rfl #[.pointer (some ⟨g, 0, none⟩), .int .u8 41] rfl Z0 ?_; (with_reducible refine (Yn.calls kj3 g t248 t249 t250 t251 41 true t254 t255 t256 t257 w0 _ ?side1 ?side2 A29.out).mono ?_); (case side1 => exact Z1u); (case side2 => exact QB); rintro e w39 ⟨rfl, hi, hb, hk⟩; refine ⟨_, rfl, ?_⟩; have n0_ := Y0.mk (Y1.blk hk (g' := gb207) (o := .cells #[.int .i64 0, .string (⟨#[]⟩ : ByteArray), .slice none 0 0, .slice none 0 0] 37 (0, 0)) ZN NB207_0.out (by simp)); have n1_ := Y0.mk (Kd.R_mono (Kd.R_keep (YC.apart (show YC w0 _ g t248 t249 t250 t251 from QI81_0) (by (with_reducible repeat (first | apply Kd.R_alloc | apply Kd.R_drewN | apply Kd.R_drew)); exact (Kd.R_mono (Kd.R_far (p := ⟨gb252, 3, none⟩) (Kd.R_far (p := ⟨gb252, 2, none⟩) (Kd.R_far (p := ⟨gb252, 1, none⟩) (Kd.R_far (p := ⟨gb252, 0, none⟩) (Kd.R_types HO244.out BK252.out (by decide)) (fun _ hk => hk.2) (.int .i64 t240)) (fun _ hk => hk.2) (.string t241)) (fun _ hk => hk.2) (.slice Ao37 t242.length co37)) (fun _ hk => hk.2) (.slice Ao38 t245.length co38)) (fun _ h_ => h_.1))) (by decide)) hk (fun _ h => h.2)) (fun _ h => h.1)); have n2_ := Y0.mk (Kd.N_mono (Kd.N_keep (Kd.N_mono (ok := fun k_ => ((((w.heap.size ≤ k_)) ∧ (some k_ ≠ (.slice Ao37 t242.length co37 : Value).ownBlock ∧ (k_ ≠ gb207 ∧ k_ ≠ g))) ∧ k_ ≠ gb252)) (by (with_reducible repeat (first | apply Kd.N_alloc | apply Kd.N_drewN | apply Kd.N_drew)); exact (Kd.N_mono (Kd.N_far (p := ⟨gb252, 3, none⟩) (Kd.N_far (p := ⟨gb252, 2, none⟩) (Kd.N_far (p := ⟨gb252, 1, none⟩) (Kd.N_far (p := ⟨gb252, 0, none⟩) (Kd.N_mono HO247.out (fun k_ hk => (⟨hk, hk.2⟩ : _ ∧ k_ ≠ gb252))) (fun _ hk => hk.2) (.int .i64 t240)) (fun _ hk => hk.2) (.string t241)) (fun _ hk => hk.2) (.slice Ao37 t242.length co37)) (fun _ hk => hk.2) (.slice Ao38 t245.length co38)) (fun _ h_ => h_.1))) (fun k_ hk_ => (⟨hk_, hk_.1.2.2.2⟩ : _ ∧ k_ ≠ g))) hk (fun _ h => h.2)) (fun _ h => h.1)); have n3_ := Y0.mk (Y1.blk hk (g' := gb252) (o := .cells #[.int .i64 t240, .string t241, .slice Ao37 t242.length co37, .slice Ao38 t245.length co38] 37 (0, 0)) Z2G NB252_0.out (by simp)); have n4_ := Y0.mk (Y1.trans QK hk (.inl rfl)); have n5_ := Y0.mk (hb); have n6_ := Y0.mk (hi); clear BK207 HO244 HO247 BK252 HK HB HI0; have BK207 := n0_; have HO244 := n1_; have HO247 := n2_; have BK252 := n3_; have HK := n4_; have HB := n5_; have HI0 := n6_; clear n0_ n1_ n2_ n3_ n4_ n5_ n6_; (try clear hb); (try clear hb2); (try clear hk); (try clear hi); obtain ⟨hcz40_0, hcz40_1, hcz40_2, hcz40_3, hfz40_0, hfz40_1, hfz40_2, hfz40_3⟩ := YA BK252.out; have hnb41 := NB207_0.out; have hnc41 := NB0_207.out; obtain ⟨hcz42_0, hcz42_1, hcz42_2, hcz42_3, hfz42_0, hfz42_1, hfz42_2, hfz42_3⟩ := YA BK207.out))
       refine bodyPost_ret (results_cell_row rfl _ _ gb207 37 #[.int .i64 t240, .string t241, .slice Ao37 t242.length co37, .slice Ao38 t245.length co38] (0, 0) _ rfl Z2G Tryd.underlying37 rfl Z4) rfl ?_
       exact ⟨_, _, Z2, by (with_reducible repeat (first | apply Kd.R_alloc | apply Kd.R_drewN | apply Kd.R_drew)); exact Kd.R_mono (Kd.R_far (p := ⟨gb207, 3, none⟩) (Kd.R_far (p := ⟨gb207, 2, none⟩) (Kd.R_far (p := ⟨gb207, 1, none⟩) (Kd.R_far (p := ⟨gb207, 0, none⟩) (Kd.R_types HO244.out BK207.out (by decide)) (fun _ hk => hk.2) (.int .i64 t240)) (fun _ hk => hk.2) (.string t241)) (fun _ hk => hk.2) (.slice Ao37 t242.length co37)) (fun _ hk => hk.2) (.slice Ao38 t245.length co38)) (fun _ hk => hk.1.1), by (with_reducible repeat (first | apply Kd.N_alloc | apply Kd.N_drewN | apply Kd.N_drew)); exact Kd.N_mono (Kd.N_far (p := ⟨gb207, 3, none⟩) (Kd.N_far (p := ⟨gb207, 2, none⟩) (Kd.N_far (p := ⟨gb207, 1, none⟩) (Kd.N_far (p := ⟨gb207, 0, none⟩) (Kd.N_mono HO247.out (fun k_ hk => (⟨hk, hk.1.2.2.1⟩ : _ ∧ k_ ≠ gb207))) (fun _ hk => hk.2) (.int .i64 t240)) (fun _ hk => hk.2) (.string t241)) (fun _ hk => hk.2) (.slice Ao37 t242.length co37)) (fun _ hk => hk.2) (.slice Ao38 t245.length co38)) (fun _ hk => ⟨hk.1.1.1, hk.1.1.2.1⟩), QI81_0, QB, QK⟩
      ·replace c30 := Bool.eq_false_iff.mpr c30
       subst c30
       have H1 : ((Yu.f t254 t255 t256 t257 t255 2).bind fun bt258 => (some (bt258.1, bt258.2.1, bt258.2.2.1, bt258.2.2.2.1, bt258.2.2.2.2.1, bt258.2.2.2.2.2.1, bt258.2.2.2.2.2.2.1, bt258.2.2.2.2.2.2.2))) = some (r1, r2, r3, r4, r5, r6, r7, r8) := by rw [if_neg (show ¬ (false = true) by decide)] at H; exact H
       clear H
       have H := H1
       clear H1
       replace H := Option.bind_eq_some_iff.mp H
       obtain ⟨⟨t258, t259, t260, t263, t266, t267, t268, t269⟩, A430, H⟩ := H
       replace H : (some (t258, t259, t260, t263, t266, t267, t268, t269)) = some (r1, r2, r3, r4, r5, r6, r7, r8) := H
       have A43 := Y0.mk A430
       clear A430
       simp only [Option.some.injEq, Prod.mk.injEq] at H
       obtain ⟨rfl, rfl, rfl, rfl, rfl, rfl, rfl, rfl⟩ := H
       obtain ⟨hcz44_0, hcz44_1, hcz44_2, hcz44_3, hfz44_0, hfz44_1, hfz44_2, hfz44_3⟩ := YA HI0.out.1
       go_wp2_with (first | ((with_reducible refine Yl (f := 55) rfl ?_); refine YO (some 39) rfl rfl Tryd.func55 Z4 rfl #[.pointer (some ⟨g, 0, none⟩), .int .i64 (wrap64 (a1 + 1))] rfl Z0 ?_; (with_reducible refine ((ih kj3 (by have := HJ3.out; omega)).1 g t209 (wrap64 (t210 + 1)) t211 t212 (wrap64 (a1 + 1)) t240 t241 t242 t245 t248 t249 t250 t251 w0 _ ?side1 ?side2 ?side3 A28.out).mono ?_); (case side1 => exact Z1u); (case side2 => exact QB); (case side3 => exact Z22); rintro e w45 ⟨v243, v246, rfl, ho0, ho1, hi, hb, hk⟩; refine ⟨_, rfl, ?_⟩; have n0_ := Y0.mk (Y1.blk hk (g' := gb207) (o := .cells #[.int .i64 0, .string (⟨#[]⟩ : ByteArray), .slice none 0 0, .slice none 0 0] 37 (0, 0)) ZA NB207_0.out (by simp)); have n1_ := Y0.mk (Kd.R_lower (Kd.R_newM (M := fun k_ => (w.heap.size ≤ k_)) (Kd.R_mono (ok' := fun k_ => True) ho0 (fun _ hk_ => trivial)) (Y7 (w := w) (g := g) (row := none) QK) (fun k_ h_ => h_)) (Y7 (w := w) (g := g) (row := none) QK)); have n2_ := Y0.mk (Kd.N_lower (Kd.N_mono (ok' := fun k_ => (w.heap.size ≤ k_) ∧ some k_ ≠ (v243 : Value).ownBlock ∧ k_ ≠ gb207 ∧ k_ ≠ g) ho1 (fun k_ hk_ => ⟨(Nat.le_trans (Y7 (w := w) (g := g) (row := none) QK) hk_.1), hk_.2, (Kd.freshB (g := gb207) (o := .cells #[.int .i64 0, .string (⟨#[]⟩ : ByteArray), .slice none 0 0, .slice none 0 0] 37 (0, 0)) ZA k_ hk_.1), (YC.fresh QI81_0 k_ hk_.1)⟩)) (Y7 (w := w) (g := g) (row := none) QK)); have n3_ := Y0.mk (Y1.trans QK hk (.inl rfl)); have n4_ := Y0.mk (hb); have n5_ := Y0.mk (hi); clear BK207 HK HB HI0; have BK207 := n0_; have HO244 := n1_; have HO247 := n2_; have HK := n3_; have HB := n4_; have HI0 := n5_; clear n0_ n1_ n2_ n3_ n4_ n5_; (try clear hb); (try clear hb2); (try clear hk); (try clear hi); (try clear ho0); (try clear ho1)) | ((with_reducible refine YF (N := 6) rfl ?_); refine YD ?hg (N := 6) ?hd (cs := #[.int .i64 0, .string (⟨#[]⟩ : ByteArray), .slice none 0 0, .slice none 0 0]) (t := 37) ?hr ?_; (case hd => rfl); (case hg => rfl); (case hr => exact Zb); intro gb252 hg w46 hbox hb; have n0_ := Y0.mk (Kd.R_below Z1b hb); have n1_ := Y0.mk (Kd.N_below (Kd.N_elderB Z1g gb252 (Nat.le_of_eq hg.symm)) hb); have n2_ := Y0.mk (Yt (g := gb207) (o := .cells #[.int .i64 0, .string (⟨#[]⟩ : ByteArray), .slice none 0 0, .slice none 0 0] 37 (0, 0)) QQ hb); have n3_ := Y0.mk (YC.below QI81_0 hb); have n4_ := Y0.mk (Y1.trans QK (Y1.of_below hb g none) (.inl rfl)); have n5_ := Y0.mk (Y8 QB hb); have n6_ := Y0.mk (hbox); have n7_ := Y0.mk ((by rw [hg]; exact (Y7 (w := w) (g := g) (row := none) QK) : w.heap.size ≤ gb252)); have n8_ := Y0.mk ((Nat.le_trans HW0.out (by rw [hg]; exact (Y7 (w := w) (g := g) (row := none) QK) : w.heap.size ≤ gb252) : w0.heap.size ≤ gb252)); have n9_ := Y0.mk ((by rw [hg]; exact Nat.ne_of_lt (Y14 (g := gb207) (o := .cells #[.int .i64 0, .string (⟨#[]⟩ : ByteArray), .slice none 0 0, .slice none 0 0] 37 (0, 0)) QQ) : gb207 ≠ gb252)); have n10_ := Y0.mk ((by rw [hg]; exact Nat.ne_of_gt (Y14 (g := gb207) (o := .cells #[.int .i64 0, .string (⟨#[]⟩ : ByteArray), .slice none 0 0, .slice none 0 0] 37 (0, 0)) QQ) : gb252 ≠ gb207)); have n11_ := Y0.mk ((by rw [hg]; exact Nat.ne_of_lt (YC.lt (show YC w0 _ g t248 t249 t250 t251 from QI81_0)) : g ≠ gb252)); have n12_ := Y0.mk ((by rw [hg]; exact Nat.ne_of_gt (YC.lt (show YC w0 _ g t248 t249 t250 t251 from QI81_0)) : gb252 ≠ g)); clear HO244 HO247 BK207 HI0 HK HB; have HO244 := n0_; have HO247 := n1_; have BK207 := n2_; have HI0 := n3_; have HK := n4_; have HB := n5_; have BK252 := n6_; have GW252 := n7_; have GE252 := n8_; have NB207_252 := n9_; have NB252_207 := n10_; have NB0_252 := n11_; have NB252_0 := n12_; clear n0_ n1_ n2_ n3_ n4_ n5_ n6_ n7_ n8_ n9_ n10_ n11_ n12_ hb hbox hg; have hnb47 := NB252_207.out; have hnc47 := NB207_252.out; have hnb48 := NB252_0.out; have hnc48 := NB0_252.out; obtain ⟨hcz49_0, hcz49_1, hcz49_2, hcz49_3, hfz49_0, hfz49_1, hfz49_2, hfz49_3⟩ := YA BK252.out; obtain ⟨Ao50, co50, eo50⟩ := Kd.R_slice HO244.out; subst eo50; obtain ⟨Ao51, co51, eo51⟩ := Kd.N_slice HO247.out; subst eo51) | ((with_reducible refine Yl (f := 97) rfl ?_); refine YO (some 41) rfl rfl Tryd.func97 Z4 rfl #[.pointer (some ⟨g, 0, none⟩), .int .u8 41] rfl Z0 ?_; (with_reducible refine (Yn.calls kj3 g t248 t249 t250 t251 41 false t254 t255 t256 t257 w0 _ ?side1 ?side2 A29.out).mono ?_); (case side1 => exact Z1u); (case side2 => exact QB); rintro e w52 ⟨rfl, hi, hb, hk⟩; refine ⟨_, rfl, ?_⟩; have n0_ := Y0.mk (Y1.blk hk (g' := gb207) (o := .cells #[.int .i64 0, .string (⟨#[]⟩ : ByteArray), .slice none 0 0, .slice none 0 0] 37 (0, 0)) ZN NB207_0.out (by simp)); have n1_ := Y0.mk (Kd.R_mono (Kd.R_keep (YC.apart (show YC w0 _ g t248 t249 t250 t251 from QI81_0) (by (with_reducible repeat (first | apply Kd.R_alloc | apply Kd.R_drewN | apply Kd.R_drew)); exact (Kd.R_mono (Kd.R_far (p := ⟨gb252, 3, none⟩) (Kd.R_far (p := ⟨gb252, 2, none⟩) (Kd.R_far (p := ⟨gb252, 1, none⟩) (Kd.R_far (p := ⟨gb252, 0, none⟩) (Kd.R_types HO244.out BK252.out (by decide)) (fun _ hk => hk.2) (.int .i64 t240)) (fun _ hk => hk.2) (.string t241)) (fun _ hk => hk.2) (.slice Ao50 t242.length co50)) (fun _ hk => hk.2) (.slice Ao51 t245.length co51)) (fun _ h_ => h_.1))) (by decide)) hk (fun _ h => h.2)) (fun _ h => h.1)); have n2_ := Y0.mk (Kd.N_mono (Kd.N_keep (Kd.N_mono (ok := fun k_ => ((((w.heap.size ≤ k_)) ∧ (some k_ ≠ (.slice Ao50 t242.length co50 : Value).ownBlock ∧ (k_ ≠ gb207 ∧ k_ ≠ g))) ∧ k_ ≠ gb252)) (by (with_reducible repeat (first | apply Kd.N_alloc | apply Kd.N_drewN | apply Kd.N_drew)); exact (Kd.N_mono (Kd.N_far (p := ⟨gb252, 3, none⟩) (Kd.N_far (p := ⟨gb252, 2, none⟩) (Kd.N_far (p := ⟨gb252, 1, none⟩) (Kd.N_far (p := ⟨gb252, 0, none⟩) (Kd.N_mono HO247.out (fun k_ hk => (⟨hk, hk.2⟩ : _ ∧ k_ ≠ gb252))) (fun _ hk => hk.2) (.int .i64 t240)) (fun _ hk => hk.2) (.string t241)) (fun _ hk => hk.2) (.slice Ao50 t242.length co50)) (fun _ hk => hk.2) (.slice Ao51 t245.length co51)) (fun _ h_ => h_.1))) (fun k_ hk_ => (⟨hk_, hk_.1.2.2.2⟩ : _ ∧ k_ ≠ g))) hk (fun _ h => h.2)) (fun _ h => h.1)); have n3_ := Y0.mk (Y1.blk hk (g' := gb252) (o := .cells #[.int .i64 t240, .string t241, .slice Ao50 t242.length co50, .slice Ao51 t245.length co51] 37 (0, 0)) (by (with_reducible repeat (first | refine Yh ?_ _ | refine Yb ?_ | refine Yd ?_ _)); exact YE (cs := #[.int .i64 t240, .string t241, .slice Ao50 t242.length co50, .slice none 0 0]) Z2f 3 _ rfl) NB252_0.out (by simp)); have n4_ := Y0.mk (Y1.trans QK hk (.inl rfl)); have n5_ := Y0.mk (hb); have n6_ := Y0.mk (hi); clear BK207 HO244 HO247 BK252 HK HB HI0; have BK207 := n0_; have HO244 := n1_; have HO247 := n2_; have BK252 := n3_; have HK := n4_; have HB := n5_; have HI0 := n6_; clear n0_ n1_ n2_ n3_ n4_ n5_ n6_; (try clear hb); (try clear hb2); (try clear hk); (try clear hi); obtain ⟨HGz53, hgz53⟩ := HI0.out; have hcz53_0 := Y1r HGz53; have hcz53_1 := Y1s HGz53; have hcz53_2 := Y1t HGz53; have hcz53_3 := Y1u HGz53; have hfz53_0 := Y6 HGz53 0; have hfz53_1 := Y6 HGz53 1; have hfz53_2 := Y6 HGz53 2; have hfz53_3 := Y6 HGz53 3; clear HGz53 hgz53) | ((with_reducible refine Yl (f := 57) rfl ?_); refine YO (some 48) rfl rfl Tryd.func57 Z4 rfl #[.pointer (some ⟨g, 0, none⟩), .int .i64 t255, .int .i64 2] rfl Z0 ?_; (with_reducible refine (Yu.calls g t254 t255 t256 t257 t255 2 t258 t259 t260 t263 t266 t267 t268 t269 w0 _ ?side1 ?side2 A43.out).mono ?_); (case side1 => exact Z1u); (case side2 => exact QB); rintro e w54 ⟨v261, v264, rfl, ho0, ho1, hi, hb, hk⟩; refine ⟨_, rfl, ?_⟩; have n0_ := Y0.mk (Y1.blk hk (g' := gb207) (o := .cells #[.int .i64 0, .string (⟨#[]⟩ : ByteArray), .slice none 0 0, .slice none 0 0] 37 (0, 0)) QQ NB207_0.out (by simp)); have n1_ := Y0.mk (Kd.R_mono (Kd.R_told (Kd.R_oldK (YC.apart (show YC w0 _ g t254 t255 t256 t257 from QI81_0) Z1b (by decide)) hk) (Kd.R_base ho0)) (fun _ h_ => h_.1)); have n2_ := Y0.mk (Kd.N_mono (Kd.N_told (Kd.N_told (Kd.N_oldK (Kd.N_mono (ok := fun k_ => ((((w.heap.size ≤ k_)) ∧ (some k_ ≠ (.slice Ao50 t242.length co50 : Value).ownBlock ∧ (k_ ≠ gb207 ∧ k_ ≠ g))) ∧ k_ ≠ gb252)) Z1g (fun k_ hk_ => (⟨hk_, hk_.1.2.2.2⟩ : _ ∧ k_ ≠ g))) hk) (Kd.R_base ho0)) (Kd.N_base ho1)) (fun _ h_ => h_.1)); have n3_ := Y0.mk (Y1.blk hk (g' := gb252) (o := .cells #[.int .i64 t240, .string t241, .slice Ao50 t242.length co50, .slice Ao51 t245.length co51] 37 (0, 0)) QQ NB252_0.out (by simp)); have n4_ := Y0.mk (Kd.R_lower (Kd.R_new' (Kd.R_newM (M := fun k_ => (w.heap.size ≤ k_)) (Kd.R_mono (ok' := fun k_ => True) ho0 (fun _ hk_ => trivial)) (Y7 (w := w) (g := g) (row := none) QK) (fun k_ h_ => h_)) (Kd.R_lt Z1b)) (Y7 (w := w) (g := g) (row := none) QK)); have n5_ := Y0.mk (Kd.N_lower (Kd.N_mono (ok' := fun k_ => (w.heap.size ≤ k_) ∧ some k_ ≠ (v261 : Value).ownBlock ∧ some k_ ≠ (.slice Ao50 t242.length co50 : Value).ownBlock ∧ some k_ ≠ (.slice Ao51 t245.length co51 : Value).ownBlock ∧ k_ ≠ gb207 ∧ k_ ≠ gb252 ∧ k_ ≠ g) ho1 (fun k_ hk_ => ⟨(Nat.le_trans (Y7 (w := w) (g := g) (row := none) QK) hk_.1), hk_.2, (Kd.fresh' (Kd.R_lt Z1b) k_ hk_.1), (Kd.fresh' (Kd.N_lt Z1g) k_ hk_.1), (Kd.freshB (g := gb207) (o := .cells #[.int .i64 0, .string (⟨#[]⟩ : ByteArray), .slice none 0 0, .slice none 0 0] 37 (0, 0)) QQ k_ hk_.1), (Kd.freshB (g := gb252) (o := .cells #[.int .i64 t240, .string t241, .slice Ao50 t242.length co50, .slice Ao51 t245.length co51] 37 (0, 0)) QQ k_ hk_.1), (YC.fresh QI81_0 k_ hk_.1)⟩)) (Y7 (w := w) (g := g) (row := none) QK)); have n6_ := Y0.mk (Y1.trans QK hk (.inl rfl)); have n7_ := Y0.mk (hb); have n8_ := Y0.mk (hi); clear BK207 HO244 HO247 BK252 HK HB HI0; have BK207 := n0_; have HO244 := n1_; have HO247 := n2_; have BK252 := n3_; have HO262 := n4_; have HO265 := n5_; have HK := n6_; have HB := n7_; have HI0 := n8_; clear n0_ n1_ n2_ n3_ n4_ n5_ n6_ n7_ n8_; (try clear hb); (try clear hb2); (try clear hk); (try clear hi); (try clear ho0); (try clear ho1); have hnb55 := NB207_0.out; have hnc55 := NB0_207.out; obtain ⟨hcz56_0, hcz56_1, hcz56_2, hcz56_3, hfz56_0, hfz56_1, hfz56_2, hfz56_3⟩ := YA BK207.out; obtain ⟨Ao57, co57, eo57⟩ := Kd.R_slice HO262.out; subst eo57; obtain ⟨Ao58, co58, eo58⟩ := Kd.N_slice HO265.out; subst eo58))
       refine bodyPost_ret (results_cell_row rfl _ _ gb207 37 #[.int .i64 t258, .string t259, .slice Ao57 t260.length co57, .slice Ao58 t263.length co58] (0, 0) _ rfl (by (with_reducible repeat (first | refine Yh ?_ _ | refine Yb ?_ | refine Yd ?_ _)); exact YE (cs := #[.int .i64 t258, .string t259, .slice Ao57 t260.length co57, .slice none 0 0]) (by (with_reducible repeat (first | refine Yh ?_ _ | refine Yb ?_ | refine Yd ?_ _)); exact YE (cs := #[.int .i64 t258, .string t259, .slice none 0 0, .slice none 0 0]) (by (with_reducible repeat (first | refine Yh ?_ _ | refine Yb ?_ | refine Yd ?_ _)); exact YE (cs := #[.int .i64 t258, .string (⟨#[]⟩ : ByteArray), .slice none 0 0, .slice none 0 0]) Z1 1 _ rfl) 2 _ rfl) 3 _ rfl) Tryd.underlying37 rfl Z4) rfl ?_
       exact ⟨_, _, Z2, by (with_reducible repeat (first | apply Kd.R_alloc | apply Kd.R_drewN | apply Kd.R_drew)); exact Kd.R_mono (Kd.R_far (p := ⟨gb207, 3, none⟩) (Kd.R_far (p := ⟨gb207, 2, none⟩) (Kd.R_far (p := ⟨gb207, 1, none⟩) (Kd.R_far (p := ⟨gb207, 0, none⟩) (Kd.R_types HO262.out BK207.out (by decide)) (fun _ hk => hk.2) (.int .i64 t258)) (fun _ hk => hk.2) (.string t259)) (fun _ hk => hk.2) (.slice Ao57 t260.length co57)) (fun _ hk => hk.2) (.slice Ao58 t263.length co58)) (fun _ hk => hk.1.1.1), by (with_reducible repeat (first | apply Kd.N_alloc | apply Kd.N_drewN | apply Kd.N_drew)); exact Kd.N_mono (Kd.N_far (p := ⟨gb207, 3, none⟩) (Kd.N_far (p := ⟨gb207, 2, none⟩) (Kd.N_far (p := ⟨gb207, 1, none⟩) (Kd.N_far (p := ⟨gb207, 0, none⟩) (Kd.N_mono HO265.out (fun k_ hk => (⟨hk, hk.2.2.2.2.1⟩ : _ ∧ k_ ≠ gb207))) (fun _ hk => hk.2) (.int .i64 t258)) (fun _ hk => hk.2) (.string t259)) (fun _ hk => hk.2) (.slice Ao57 t260.length co57)) (fun _ hk => hk.2) (.slice Ao58 t263.length co58)) (fun _ hk => ⟨hk.1.1, hk.1.2.1⟩), QI81_0, QB, QK⟩
   ·replace c8 := Bool.eq_false_iff.mpr c8
    subst c8
    have H1 : (if t208 = 33 then ((Y4.f kj3 t209 (wrap64 (t210 + 1)) t211 t212).bind fun bt270 => (some (bt270.1, bt270.2.1, bt270.2.2.1, bt270.2.2.2.1, bt270.2.2.2.2.1, bt270.2.2.2.2.2.1, bt270.2.2.2.2.2.2.1, bt270.2.2.2.2.2.2.2))) else ((Y3.f kj3 t209 t210 t211 t212).bind fun bt282 => (some (1, bt282.1, ([] : List ByteArray), ([] : List (S37)), bt282.2.1, bt282.2.2.1, bt282.2.2.2.1, bt282.2.2.2.2)))) = some (r1, r2, r3, r4, r5, r6, r7, r8) := by rw [if_neg (show ¬ (false = true) by decide)] at H; exact H
    clear H
    have H := H1
    clear H1
    by_cases c59 : t208 = 33
    ·rw [if_pos c59] at H
     have c59b0 : (t208 == 33) = true := beq_iff_eq.mpr c59
     have c59b1 : (t208 != 33) = false := bne_eq_false_iff_eq.mpr c59
     clear c59
     replace H := Option.bind_eq_some_iff.mp H
     obtain ⟨⟨t270, t271, t272, t275, t278, t279, t280, t281⟩, A600, H⟩ := H
     replace H : (some (t270, t271, t272, t275, t278, t279, t280, t281)) = some (r1, r2, r3, r4, r5, r6, r7, r8) := H
     have A60 := Y0.mk A600
     clear A600
     simp only [Option.some.injEq, Prod.mk.injEq] at H
     obtain ⟨rfl, rfl, rfl, rfl, rfl, rfl, rfl, rfl⟩ := H
     obtain ⟨hcz61_0, hcz61_1, hcz61_2, hcz61_3, hfz61_0, hfz61_1, hfz61_2, hfz61_3⟩ := YA HI0.out.1
     go_wp2_with (first | ((with_reducible refine Yl (f := 135) rfl ?_); refine YO (some 60) rfl rfl Tryd.func135 Z4 rfl #[.pointer (some ⟨g, 0, none⟩)] rfl Z0 ?_; (with_reducible refine (Y4.calls kj3 g t209 (wrap64 (t210 + 1)) t211 t212 t270 t271 t272 t275 t278 t279 t280 t281 w0 _ ?side1 ?side2 ?side3 A60.out).mono ?_); (case side1 => exact Z1u); (case side2 => exact QB); (case side3 => exact Z22); rintro e w62 ⟨v273, v276, rfl, ho0, ho1, hi, hb, hk⟩; refine ⟨_, rfl, ?_⟩; have n0_ := Y0.mk (Y1.blk hk (g' := gb207) (o := .cells #[.int .i64 0, .string (⟨#[]⟩ : ByteArray), .slice none 0 0, .slice none 0 0] 37 (0, 0)) ZA NB207_0.out (by simp)); have n1_ := Y0.mk (Kd.R_lower (Kd.R_newM (M := fun k_ => (w.heap.size ≤ k_)) (Kd.R_mono (ok' := fun k_ => True) ho0 (fun _ hk_ => trivial)) (Y7 (w := w) (g := g) (row := none) QK) (fun k_ h_ => h_)) (Y7 (w := w) (g := g) (row := none) QK)); have n2_ := Y0.mk (Kd.N_lower (Kd.N_mono (ok' := fun k_ => (w.heap.size ≤ k_) ∧ some k_ ≠ (v273 : Value).ownBlock ∧ k_ ≠ gb207 ∧ k_ ≠ g) ho1 (fun k_ hk_ => ⟨(Nat.le_trans (Y7 (w := w) (g := g) (row := none) QK) hk_.1), hk_.2, (Kd.freshB (g := gb207) (o := .cells #[.int .i64 0, .string (⟨#[]⟩ : ByteArray), .slice none 0 0, .slice none 0 0] 37 (0, 0)) ZA k_ hk_.1), (YC.fresh QI81_0 k_ hk_.1)⟩)) (Y7 (w := w) (g := g) (row := none) QK)); have n3_ := Y0.mk (Y1.trans QK hk (.inl rfl)); have n4_ := Y0.mk (hb); have n5_ := Y0.mk (hi); clear BK207 HK HB HI0; have BK207 := n0_; have HO274 := n1_; have HO277 := n2_; have HK := n3_; have HB := n4_; have HI0 := n5_; clear n0_ n1_ n2_ n3_ n4_ n5_; (try clear hb); (try clear hb2); (try clear hk); (try clear hi); (try clear ho0); (try clear ho1); have hnb63 := NB207_0.out; have hnc63 := NB0_207.out; obtain ⟨hcz64_0, hcz64_1, hcz64_2, hcz64_3, hfz64_0, hfz64_1, hfz64_2, hfz64_3⟩ := YA BK207.out; obtain ⟨Ao65, co65, eo65⟩ := Kd.R_slice HO274.out; subst eo65; obtain ⟨Ao66, co66, eo66⟩ := Kd.N_slice HO277.out; subst eo66))
     refine bodyPost_ret (results_cell_row rfl _ _ gb207 37 #[.int .i64 t270, .string t271, .slice Ao65 t272.length co65, .slice Ao66 t275.length co66] (0, 0) _ rfl (by (with_reducible repeat (first | refine Yh ?_ _ | refine Yb ?_ | refine Yd ?_ _)); exact YE (cs := #[.int .i64 t270, .string t271, .slice Ao65 t272.length co65, .slice none 0 0]) (by (with_reducible repeat (first | refine Yh ?_ _ | refine Yb ?_ | refine Yd ?_ _)); exact YE (cs := #[.int .i64 t270, .string t271, .slice none 0 0, .slice none 0 0]) (by (with_reducible repeat (first | refine Yh ?_ _ | refine Yb ?_ | refine Yd ?_ _)); exact YE (cs := #[.int .i64 t270, .string (⟨#[]⟩ : ByteArray), .slice none 0 0, .slice none 0 0]) Z1 1 _ rfl) 2 _ rfl) 3 _ rfl) Tryd.underlying37 rfl Z4) rfl ?_
     exact ⟨_, _, Z2, by (with_reducible repeat (first | apply Kd.R_alloc | apply Kd.R_drewN | apply Kd.R_drew)); exact Kd.R_mono (Kd.R_far (p := ⟨gb207, 3, none⟩) (Kd.R_far (p := ⟨gb207, 2, none⟩) (Kd.R_far (p := ⟨gb207, 1, none⟩) (Kd.R_far (p := ⟨gb207, 0, none⟩) (Kd.R_types HO274.out BK207.out (by decide)) (fun _ hk => hk.2) (.int .i64 t270)) (fun _ hk => hk.2) (.string t271)) (fun _ hk => hk.2) (.slice Ao65 t272.length co65)) (fun _ hk => hk.2) (.slice Ao66 t275.length co66)) (fun _ hk => hk.1.1), by (with_reducible repeat (first | apply Kd.N_alloc | apply Kd.N_drewN | apply Kd.N_drew)); exact Kd.N_mono (Kd.N_far (p := ⟨gb207, 3, none⟩) (Kd.N_far (p := ⟨gb207, 2, none⟩) (Kd.N_far (p := ⟨gb207, 1, none⟩) (Kd.N_far (p := ⟨gb207, 0, none⟩) (Kd.N_mono HO277.out (fun k_ hk => (⟨hk, hk.2.2.1⟩ : _ ∧ k_ ≠ gb207))) (fun _ hk => hk.2) (.int .i64 t270)) (fun _ hk => hk.2) (.string t271)) (fun _ hk => hk.2) (.slice Ao65 t272.length co65)) (fun _ hk => hk.2) (.slice Ao66 t275.length co66)) (fun _ hk => ⟨hk.1.1, hk.1.2.1⟩), QI81_0, QB, QK⟩
    ·rw [if_neg c59] at H
     have c59b0 : (t208 == 33) = false := beq_eq_false_iff_ne.mpr c59
     have c59b1 : (t208 != 33) = true := bne_iff_ne.mpr c59
     replace H := Option.bind_eq_some_iff.mp H
     obtain ⟨⟨t282, t283, t284, t285, t286⟩, A670, H⟩ := H
     replace H : (some (1, t282, ([] : List ByteArray), ([] : List (S37)), t283, t284, t285, t286)) = some (r1, r2, r3, r4, r5, r6, r7, r8) := H
     have A67 := Y0.mk A670
     clear A670
     simp only [Option.some.injEq, Prod.mk.injEq] at H
     obtain ⟨rfl, rfl, rfl, rfl, rfl, rfl, rfl, rfl⟩ := H
     go_wp2_with (first | ((with_reducible refine Yl (f := 136) rfl ?_); refine YO (some 62) rfl rfl Tryd.func136 Z4 rfl #[.pointer (some ⟨g, 0, none⟩)] rfl Z0 ?_; (with_reducible refine (Y3.calls kj3 g t209 t210 t211 t212 t282 t283 t284 t285 t286 w0 _ ?side1 ?side2 ?side3 A67.out).mono ?_); (case side1 => exact Z1u); (case side2 => exact QB); (case side3 => exact Z22); rintro e w68 ⟨rfl, hi, hb, hk⟩; refine ⟨_, rfl, ?_⟩; have n_ := Y2N (Y1.blk hk (g' := gb207) (o := .cells #[.int .i64 0, .string (⟨#[]⟩ : ByteArray), .slice none 0 0, .slice none 0 0] 37 (0, 0)) QQ NB207_0.out (by simp)) (Y1.trans QK hk (.inl rfl)) (hb) (hi); clear BK207 HK HB HI0; obtain ⟨BK207, HK, HB, HI0⟩ := n_; (try clear hb); (try clear hb2); (try clear hk); (try clear hi); have hnb69 := NB207_0.out; have hnc69 := NB0_207.out; obtain ⟨hcz70_0, hcz70_1, hcz70_2, hcz70_3, hfz70_0, hfz70_1, hfz70_2, hfz70_3⟩ := YA BK207.out))
     refine bodyPost_ret (results_cell_row rfl _ _ gb207 37 #[.int .i64 1, .string t282, .slice none 0 0, .slice none 0 0] (0, 0) _ rfl (by (with_reducible repeat (first | refine Yh ?_ _ | refine Yb ?_ | refine Yd ?_ _)); exact YE (cs := #[.int .i64 1, .string t282, .slice none 0 0, .slice none 0 0]) (by (with_reducible repeat (first | refine Yh ?_ _ | refine Yb ?_ | refine Yd ?_ _)); exact YE (cs := #[.int .i64 1, .string t282, .slice none 0 0, .slice none 0 0]) Z2t 2 _ rfl) 3 _ rfl) Tryd.underlying37 rfl Z4) rfl ?_
     exact ⟨_, _, Z2, Z5, Z5, QI81_0, QB, QK⟩
theorem Yj.joint : ∀ k, Yj.Spec k ∧ Yp.Spec k ∧ Y9.Spec k ∧ Ya.Spec k := by
 intro k
 induction k using Nat.strongRecOn with
 | _ k ih => exact ⟨Yj.step k ih, Yp.step k ih, Y9.step k ih, Ya.step k ih⟩
theorem Yj.calls (k : Nat) : Yj.Spec k := (Yj.joint k).1
def YB.j0 : Nat → ByteArray → Bool → ByteArray → Int → Int → Int → Int → ByteArray → List ByteArray → List (S37) → Option (Int × ByteArray × List ByteArray × (List (S37)) × Int × Int)
 | 0, _, _, _, _, _, _, _, _, _, _ => none
 | k + 1, x0, x31, x103000, x103001, x103002, x103003, x116000, x116001, x116002, x116003 => if x31 = true then ((Yu.f x103000 x103001 x103002 x103003 x103001 2).bind fun bt121 => (if bt121.2.2.2.2.2.2.1 = 0 then (some (x116000, x116001, x116002, x116003, (x0.size : Int), 0)) else (some (0, (⟨#[]⟩ : ByteArray), ([] : List ByteArray), ([] : List (S37)), bt121.2.2.2.2.2.2.2, bt121.2.2.2.2.2.2.1)))) else (if x103002 = 0 then (some (x116000, x116001, x116002, x116003, (x0.size : Int), 0)) else (some (0, (⟨#[]⟩ : ByteArray), ([] : List ByteArray), ([] : List (S37)), x103003, x103002)))
def YB.f (k : Nat) (a0 : ByteArray) : Option (Int × ByteArray × List ByteArray × (List (S37)) × Int × Int) := if (a0.size : Int) > 600 then (some (0, (⟨#[]⟩ : ByteArray), ([] : List ByteArray), ([] : List (S37)), 0, 4)) else ((Yj.f k a0 0 0 0 0).bind fun bt103 => ((Ye.f k bt103.2.2.2.2.1 bt103.2.2.2.2.2.1 bt103.2.2.2.2.2.2.1 bt103.2.2.2.2.2.2.2).bind fun bt116 => (if bt116.2.2.2.1 = 0 then (YB.j0 k a0 (decide (bt116.2.2.1 < (a0.size : Int))) bt116.2.1 bt116.2.2.1 bt116.2.2.2.1 bt116.2.2.2.2 bt103.1 bt103.2.1 bt103.2.2.1 bt103.2.2.2.1) else (YB.j0 k a0 false bt116.2.1 bt116.2.2.1 bt116.2.2.2.1 bt116.2.2.2.2 bt103.1 bt103.2.1 bt103.2.2.1 bt103.2.2.2.1))))
def YB.T9 : Bool × List (List Nat × List Nat) := (true, [([], []), ([], []), ([1], [1]), ([2], [2]), ([3], [3]), ([], []), ([5], [5]), ([6], [6]), ([7], [7]), ([0, 0], [0]), ([4, 9, 0, 1, 2, 3, 4, 9], [4]), ([8, 10, 0, 1, 2, 3, 4, 5, 6, 7, 8, 9, 10], [8])])
def YB.B9 : List Nat := [0, 0, 2, 6, 14, 0, 32, 96, 224, 1, 543, 2047]
theorem YB.tab9 : Y3x .any (Y3P Tryd.f26 9) = YB.T9 := by kernel_rfl
theorem YB.bits9 : Y1Y YB.T9.2 YB.B9 = true := by kernel_rfl
set_option maxHeartbeats 8000000 in
set_option maxRecDepth 100000 in
theorem YB.calls (k : Nat) (a0 : ByteArray) (r1 : Int) (r2 : ByteArray) (r3 : List ByteArray) (r4 : List (S37)) (r5 : Int) (r6 : Int) (w : World) (hT : Tabs w) (h : YB.f k a0 = some (r1, r2, r3, r4, r5, r6)) :
  Calls Tryd.prog 26 #[.string a0] w fun e w' => ∃ v2_ v3_ : Value, e = .returned (.tuple #[.agg #[.int .i64 r1, .string r2, v2_, v3_], .int .i64 r5, .int .i64 r6]) ∧ Kd.R Kd.string 9 w' w.heap.size (fun k_ => (w.heap.size ≤ k_)) v2_ r3 ∧ Kd.N k37 37 w' w.heap.size (fun k_ => (w.heap.size ≤ k_) ∧ some k_ ≠ (v2_ : Value).ownBlock) v3_ r4 ∧ Below w.heap.size w w' := by
 have HT := Y0.mk hT
 clear hT
 have hu37 := Tryd.underlying37
 have hu81 := Tryd.underlying81
 have HB := Y0.mk (Below.refl w.heap.size w)
 have H : (if (a0.size : Int) > 600 then (some (0, (⟨#[]⟩ : ByteArray), ([] : List ByteArray), ([] : List (S37)), 0, 4)) else ((Yj.f k a0 0 0 0 0).bind fun bt103 => ((Ye.f k bt103.2.2.2.2.1 bt103.2.2.2.2.2.1 bt103.2.2.2.2.2.2.1 bt103.2.2.2.2.2.2.2).bind fun bt116 => (if bt116.2.2.2.1 = 0 then (YB.j0 k a0 (decide (bt116.2.2.1 < (a0.size : Int))) bt116.2.1 bt116.2.2.1 bt116.2.2.2.1 bt116.2.2.2.2 bt103.1 bt103.2.1 bt103.2.2.1 bt103.2.2.2.1) else (YB.j0 k a0 false bt116.2.1 bt116.2.2.1 bt116.2.2.2.1 bt116.2.2.2.2 bt103.1 bt103.2.1 bt103.2.2.1 bt103.2.2.2.1))))) = some (r1, r2, r3, r4, r5, r6) := h
 clear h
 by_cases c2 : (a0.size : Int) > 600
 ·rw [if_pos c2] at H
  have c2b0 : decide (600 < (a0.size : Int)) = true := decide_eq_true c2
  have c2b1 : decide (600 < a0.size) = true := decide_eq_true (by omega)
  clear c2
  simp only [Option.some.injEq, Prod.mk.injEq] at H
  obtain ⟨rfl, rfl, rfl, rfl, rfl, rfl⟩ := H
  go_enter Tryd.func26, Tryd.ntmps26
  go_wp2_with (first | ((with_reducible refine YF (N := 2) rfl ?_); (try (refine YW (by rfl) ?_; dsimp only)); refine YD ?hg (N := 2) ?hd (cs := #[.int .i64 0, .string (⟨#[]⟩ : ByteArray), .slice none 0 0, .slice none 0 0]) (t := 37) ?hr ?_; (case hd => rfl); (case hg => rfl); (case hr => exact Zb); intro gb101 hg w3 hbox hb; have n_ := Y2N (Y8 QB hb) (hbox) ((by rw [hg]; exact (Yf QB) : w.heap.size ≤ gb101)) ((by rw [hg]; exact (Yf QB) : w.heap.size ≤ gb101)); clear HB; obtain ⟨HB, BK101, GW101, GE101⟩ := n_; clear hb hbox hg; obtain ⟨hcz4_0, hcz4_1, hcz4_2, hcz4_3, hfz4_0, hfz4_1, hfz4_2, hfz4_3⟩ := YA BK101.out))
  refine bodyPost_ret (Y1O rfl _ _ gb101 37 #[.int .i64 0, .string (⟨#[]⟩ : ByteArray), .slice none 0 0, .slice none 0 0] (0, 0) _ rfl Z2a Tryd.underlying37 rfl Z4) rfl ?_
  exact Z2y
 ·rw [if_neg c2] at H
  have c2b0 : decide (600 < (a0.size : Int)) = false := decide_eq_false c2
  have c2b1 : decide (600 < a0.size) = false := decide_eq_false (by omega)
  clear c2
  replace H := Option.bind_eq_some_iff.mp H
  obtain ⟨⟨t103, t104, t105, t108, t111, t112, t113, t114⟩, A50, H⟩ := H
  replace H : ((Ye.f k t111 t112 t113 t114).bind fun bt116 => (if bt116.2.2.2.1 = 0 then (YB.j0 k a0 (decide (bt116.2.2.1 < (a0.size : Int))) bt116.2.1 bt116.2.2.1 bt116.2.2.2.1 bt116.2.2.2.2 t103 t104 t105 t108) else (YB.j0 k a0 false bt116.2.1 bt116.2.2.1 bt116.2.2.2.1 bt116.2.2.2.2 t103 t104 t105 t108))) = some (r1, r2, r3, r4, r5, r6) := H
  have A5 := Y0.mk A50
  clear A50
  replace H := Option.bind_eq_some_iff.mp H
  obtain ⟨⟨t116, t117, t118, t119, t120⟩, A60, H⟩ := H
  replace H : (if t119 = 0 then (YB.j0 k a0 (decide (t118 < (a0.size : Int))) t117 t118 t119 t120 t103 t104 t105 t108) else (YB.j0 k a0 false t117 t118 t119 t120 t103 t104 t105 t108)) = some (r1, r2, r3, r4, r5, r6) := H
  have A6 := Y0.mk A60
  clear A60
  have HC7 := Y0.mk H
  clear H
  go_enter Tryd.func26, Tryd.ntmps26
  go_upto_region 6 with (first | ((with_reducible refine YF (N := 2) rfl ?_); (try (refine YW (by rfl) ?_; dsimp only)); refine YD ?hg (N := 2) ?hd (cs := #[.int .i64 0, .string (⟨#[]⟩ : ByteArray), .slice none 0 0, .slice none 0 0]) (t := 37) ?hr ?_; (case hd => rfl); (case hg => rfl); (case hr => exact Zb); intro gb101 hg w8 hbox hb; have n_ := Y2N (Y8 QB hb) (hbox) ((by rw [hg]; exact (Yf QB) : w.heap.size ≤ gb101)) ((by rw [hg]; exact (Yf QB) : w.heap.size ≤ gb101)); clear HB; obtain ⟨HB, BK101, GW101, GE101⟩ := n_; clear hb hbox hg) | ((with_reducible refine YF (N := 13) rfl ?_); (try (refine YW (by rfl) ?_; dsimp only)); refine YD ?hg (N := 13) ?hd (cs := #[.string a0, .int .i64 0, .int .i64 0, .int .i64 0]) (t := 81) ?hr ?_; (case hd => rfl); (case hg => rfl); (case hr => exact Zb); intro gb102 hg w9 hbox hb; have n_ := put7 (Yt (g := gb101) (o := .cells #[.int .i64 0, .string (⟨#[]⟩ : ByteArray), .slice none 0 0, .slice none 0 0] 37 (0, 0)) QQ hb) (Y8 QB hb) ((by rw [hg]; exact (Yf QB) : w.heap.size ≤ gb102)) ((by rw [hg]; exact (Yf QB) : w.heap.size ≤ gb102)) ((by rw [hg]; exact Nat.ne_of_lt (Y14 (g := gb101) (o := .cells #[.int .i64 0, .string (⟨#[]⟩ : ByteArray), .slice none 0 0, .slice none 0 0] 37 (0, 0)) QQ) : gb101 ≠ gb102)) ((by rw [hg]; exact Nat.ne_of_gt (Y14 (g := gb101) (o := .cells #[.int .i64 0, .string (⟨#[]⟩ : ByteArray), .slice none 0 0, .slice none 0 0] 37 (0, 0)) QQ) : gb102 ≠ gb101)) ((⟨hbox, (by rw [hg]; exact (Yf QB))⟩ : YC w w9 gb102 a0 0 0 0)); clear BK101 HB; obtain ⟨BK101, HB, GW102, GE102, NB101_102, NB102_101, HI102⟩ := n_; clear hb hbox hg) | ((with_reducible refine Yl (f := 55) rfl ?_); refine YO (some 15) rfl rfl Tryd.func55 Z4 rfl #[.pointer (some ⟨gb102, 0, none⟩), .int .i64 0] rfl Z0 ?_; (with_reducible refine (Yj.calls k gb102 a0 0 0 0 0 t103 t104 t105 t108 t111 t112 t113 t114 w _ ?side1 ?side2 ?side3 A5.out).mono ?_); (case side1 => exact QI81_102); (case side2 => exact QB); (case side3 => exact Z22); rintro e w10 ⟨v106, v109, rfl, ho0, ho1, hi, hb, hk⟩; refine ⟨_, rfl, ?_⟩; have n0_ := Y0.mk (Y1.blk hk (g' := gb101) (o := .cells #[.int .i64 0, .string (⟨#[]⟩ : ByteArray), .slice none 0 0, .slice none 0 0] 37 (0, 0)) QQ NB101_102.out (by simp)); have n1_ := Y0.mk (Kd.R_lower (Kd.R_newM (M := fun k_ => (w.heap.size ≤ k_)) (Kd.R_mono (ok' := fun k_ => True) ho0 (fun _ hk_ => trivial)) (Yf QB) (fun k_ h_ => h_)) (Yf QB)); have n2_ := Y0.mk (Kd.N_lower (Kd.N_mono (ok' := fun k_ => (w.heap.size ≤ k_) ∧ some k_ ≠ (v106 : Value).ownBlock ∧ k_ ≠ gb101 ∧ k_ ≠ gb102) ho1 (fun k_ hk_ => ⟨(Nat.le_trans (Yf QB) hk_.1), hk_.2, (Kd.freshB (g := gb101) (o := .cells #[.int .i64 0, .string (⟨#[]⟩ : ByteArray), .slice none 0 0, .slice none 0 0] 37 (0, 0)) QQ k_ hk_.1), (YC.fresh QI81_102 k_ hk_.1)⟩)) (Yf QB)); have n3_ := Y0.mk (hb); have n4_ := Y0.mk (hi); clear BK101 HB HI102; have BK101 := n0_; have HO107 := n1_; have HO110 := n2_; have HB := n3_; have HI102 := n4_; clear n0_ n1_ n2_ n3_ n4_; (try clear hb); (try clear hb2); (try clear hk); (try clear hi); (try clear ho0); (try clear ho1)) | ((with_reducible refine YF (N := 6) rfl ?_); (try (refine YW (by rfl) ?_; dsimp only)); refine YD ?hg (N := 6) ?hd (cs := #[.int .i64 0, .string (⟨#[]⟩ : ByteArray), .slice none 0 0, .slice none 0 0]) (t := 37) ?hr ?_; (case hd => rfl); (case hg => rfl); (case hr => exact Zb); intro gb115 hg w11 hbox hb; have n0_ := Y0.mk (Kd.R_below Z1Z hb); have n1_ := Y0.mk (Kd.N_below (Kd.N_elderB Z1W gb115 (Nat.le_of_eq hg.symm)) hb); have n2_ := Y0.mk (Yt (g := gb101) (o := .cells #[.int .i64 0, .string (⟨#[]⟩ : ByteArray), .slice none 0 0, .slice none 0 0] 37 (0, 0)) QQ hb); have n3_ := Y0.mk (YC.below QI81_102 hb); have n4_ := Y0.mk (Y8 QB hb); have n5_ := Y0.mk (hbox); have n6_ := Y0.mk ((by rw [hg]; exact (Yf QB) : w.heap.size ≤ gb115)); have n7_ := Y0.mk ((by rw [hg]; exact (Yf QB) : w.heap.size ≤ gb115)); have n8_ := Y0.mk ((by rw [hg]; exact Nat.ne_of_lt (Y14 (g := gb101) (o := .cells #[.int .i64 0, .string (⟨#[]⟩ : ByteArray), .slice none 0 0, .slice none 0 0] 37 (0, 0)) QQ) : gb101 ≠ gb115)); have n9_ := Y0.mk ((by rw [hg]; exact Nat.ne_of_gt (Y14 (g := gb101) (o := .cells #[.int .i64 0, .string (⟨#[]⟩ : ByteArray), .slice none 0 0, .slice none 0 0] 37 (0, 0)) QQ) : gb115 ≠ gb101)); have n10_ := Y0.mk ((by rw [hg]; exact Nat.ne_of_lt (YC.lt (show YC w _ gb102 t111 t112 t113 t114 from QI81_102)) : gb102 ≠ gb115)); have n11_ := Y0.mk ((by rw [hg]; exact Nat.ne_of_gt (YC.lt (show YC w _ gb102 t111 t112 t113 t114 from QI81_102)) : gb115 ≠ gb102)); clear HO107 HO110 BK101 HI102 HB; have HO107 := n0_; have HO110 := n1_; have BK101 := n2_; have HI102 := n3_; have HB := n4_; have BK115 := n5_; have GW115 := n6_; have GE115 := n7_; have NB101_115 := n8_; have NB115_101 := n9_; have NB102_115 := n10_; have NB115_102 := n11_; clear n0_ n1_ n2_ n3_ n4_ n5_ n6_ n7_ n8_ n9_ n10_ n11_ hb hbox hg; have hnb12 := NB115_101.out; have hnc12 := NB101_115.out; have hnb13 := NB115_102.out; have hnc13 := NB102_115.out; obtain ⟨hcz14_0, hcz14_1, hcz14_2, hcz14_3, hfz14_0, hfz14_1, hfz14_2, hfz14_3⟩ := YA BK115.out; obtain ⟨Ao15, co15, eo15⟩ := Kd.R_slice HO107.out; subst eo15; obtain ⟨Ao16, co16, eo16⟩ := Kd.N_slice HO110.out; subst eo16) | ((with_reducible refine Yl (f := 56) rfl ?_); refine YO (some 17) rfl rfl Tryd.func56 Z4 rfl #[.pointer (some ⟨gb102, 0, none⟩)] rfl Z0 ?_; (with_reducible refine (Ye.calls k gb102 t111 t112 t113 t114 t116 t117 t118 t119 t120 w _ ?side1 ?side2 A6.out).mono ?_); (case side1 => exact QI81_102); (case side2 => exact QB); rintro e w17 ⟨rfl, hi, hb, hk⟩; refine ⟨_, rfl, ?_⟩; have n0_ := Y0.mk (Y1.blk hk (g' := gb101) (o := .cells #[.int .i64 0, .string (⟨#[]⟩ : ByteArray), .slice none 0 0, .slice none 0 0] 37 (0, 0)) Z7 NB101_102.out (by simp)); have n1_ := Y0.mk (Kd.R_mono (Kd.R_keep (YC.apart (show YC w _ gb102 t111 t112 t113 t114 from QI81_102) (by (with_reducible repeat (first | apply Kd.R_alloc | apply Kd.R_drewN | apply Kd.R_drew)); exact (Kd.R_mono (Kd.R_far (p := ⟨gb115, 3, none⟩) (Kd.R_far (p := ⟨gb115, 2, none⟩) (Kd.R_far (p := ⟨gb115, 1, none⟩) (Kd.R_far (p := ⟨gb115, 0, none⟩) (Kd.R_types HO107.out BK115.out (by decide)) (fun _ hk => hk.2) (.int .i64 t103)) (fun _ hk => hk.2) (.string t104)) (fun _ hk => hk.2) (.slice Ao15 t105.length co15)) (fun _ hk => hk.2) (.slice Ao16 t108.length co16)) (fun _ h_ => h_.1))) (by decide)) hk (fun _ h => h.2)) (fun _ h => h.1)); have n2_ := Y0.mk (Kd.N_mono (Kd.N_keep (Kd.N_mono (ok := fun k_ => ((((w.heap.size ≤ k_)) ∧ (some k_ ≠ (.slice Ao15 t105.length co15 : Value).ownBlock ∧ (k_ ≠ gb101 ∧ k_ ≠ gb102))) ∧ k_ ≠ gb115)) (by (with_reducible repeat (first | apply Kd.N_alloc | apply Kd.N_drewN | apply Kd.N_drew)); exact (Kd.N_mono (Kd.N_far (p := ⟨gb115, 3, none⟩) (Kd.N_far (p := ⟨gb115, 2, none⟩) (Kd.N_far (p := ⟨gb115, 1, none⟩) (Kd.N_far (p := ⟨gb115, 0, none⟩) (Kd.N_mono HO110.out (fun k_ hk => (⟨hk, hk.2⟩ : _ ∧ k_ ≠ gb115))) (fun _ hk => hk.2) (.int .i64 t103)) (fun _ hk => hk.2) (.string t104)) (fun _ hk => hk.2) (.slice Ao15 t105.length co15)) (fun _ hk => hk.2) (.slice Ao16 t108.length co16)) (fun _ h_ => h_.1))) (fun k_ hk_ => (⟨hk_, hk_.1.2.2.2⟩ : _ ∧ k_ ≠ gb102))) hk (fun _ h => h.2)) (fun _ h => h.1)); have n3_ := Y0.mk (Y1.blk hk (g' := gb115) (o := .cells #[.int .i64 t103, .string t104, .slice Ao15 t105.length co15, .slice Ao16 t108.length co16] 37 (0, 0)) Z2C NB115_102.out (by simp)); have n4_ := Y0.mk (hb); have n5_ := Y0.mk (hi); clear BK101 HO107 HO110 BK115 HB HI102; have BK101 := n0_; have HO107 := n1_; have HO110 := n2_; have BK115 := n3_; have HB := n4_; have HI102 := n5_; clear n0_ n1_ n2_ n3_ n4_ n5_; (try clear hb); (try clear hb2); (try clear hk); (try clear hi)))
  (try simp only [Act.put, List.setIfInBounds_toArray, List.set_cons_zero, List.set_cons_succ])
  go_cut [31] (fun v31 wc => ∃ (kq : Nat) (x31_6 : Bool), v31 = .bool x31_6 ∧ Y0 (YB.j0 kq a0 x31_6 t117 t118 t119 t120 t103 t104 t105 t108 = some (r1, r2, r3, r4, r5, r6)) ∧ Y0 (kq ≤ k) ∧ Y0 (Kd.R Kd.string 9 wc w.heap.size (fun k_ => (w.heap.size ≤ k_)) (.slice Ao15 t105.length co15) t105) ∧ Y0 (Kd.N k37 37 wc w.heap.size (fun k_ => (w.heap.size ≤ k_) ∧ some k_ ≠ ((.slice Ao15 t105.length co15) : Value).ownBlock ∧ k_ ≠ gb101 ∧ k_ ≠ gb115 ∧ k_ ≠ gb102) (.slice Ao16 t108.length co16) t108) ∧ Y0 (wc.heap[gb101]? = some (.cells #[.int .i64 0, .string (⟨#[]⟩ : ByteArray), (.slice none 0 0), (.slice none 0 0)] 37 (0, 0))) ∧ Y0 (wc.heap[gb115]? = some (.cells #[.int .i64 t103, .string t104, (.slice Ao15 t105.length co15), (.slice Ao16 t108.length co16)] 37 (0, 0))) ∧ Y0 (YC w wc gb102 t117 t118 t119 t120) ∧ Y0 (Below w.heap.size w wc))
  case first =>
   have H := HC7.out
   clear HC7
   by_cases c18 : t119 = 0
   ·rw [if_pos c18] at H
    have c18b0 : (t119 == 0) = true := beq_iff_eq.mpr c18
    have c18b1 : (t119 != 0) = false := bne_eq_false_iff_eq.mpr c18
    clear c18
    (first | rw [c18b0] | (simp only [Y16, Y17]; rw [c18b0]) | skip)
    have H' := Y0.mk H
    clear H
    obtain ⟨hcz19_0, hcz19_1, hcz19_2, hcz19_3, hfz19_0, hfz19_1, hfz19_2, hfz19_3⟩ := YA HI102.out.1
    go_wp2
    go_meet
    case rel => exact ⟨_, (decide (t118 < (a0.size : Int))), Z8, H', ⟨Zr⟩, ⟨ZU⟩, ⟨ZH⟩, ⟨Z6⟩, ⟨Z1a⟩, ⟨QI81_102⟩, ⟨QB⟩⟩
   ·rw [if_neg c18] at H
    have c18b0 : (t119 == 0) = false := beq_eq_false_iff_ne.mpr c18
    have c18b1 : (t119 != 0) = true := bne_iff_ne.mpr c18
    (first | rw [c18b0] | (simp only [Y16, Y17]; rw [c18b0]) | skip)
    have H' := Y0.mk H
    clear H
    obtain ⟨hcz20_0, hcz20_1, hcz20_2, hcz20_3, hfz20_0, hfz20_1, hfz20_2, hfz20_3⟩ := YA HI102.out.1
    go_wp2
    go_meet
    case rel => exact ⟨_, (false), Z8, H', ⟨Zr⟩, ⟨ZU⟩, ⟨ZH⟩, ⟨Z6⟩, ⟨Z1a⟩, ⟨QI81_102⟩, ⟨QB⟩⟩
  case rest =>
   clear HC7
   try clear c1
   try clear c2
   try clear c2b0
   try clear c2b1
   try clear p2
   try clear c5
   try clear c12
   try clear c13
   try clear c18
   try clear c18b0
   try clear c18b1
   try clear hcz14_0 hcz14_1 hcz14_2 hcz14_3
   try clear hcz19_0 hcz19_1 hcz19_2 hcz19_3
   try clear hcz20_0 hcz20_1 hcz20_2 hcz20_3
   try clear hcz4_0 hcz4_1 hcz4_2 hcz4_3
   try clear hfz14_0
   try clear hfz14_1
   try clear hfz14_2
   try clear hfz14_3
   try clear hfz19_0
   try clear hfz19_1
   try clear hfz19_2
   try clear hfz19_3
   try clear hfz20_0
   try clear hfz20_1
   try clear hfz20_2
   try clear hfz20_3
   try clear hfz4_0
   try clear hfz4_1
   try clear hfz4_2
   try clear hfz4_3
   obtain ⟨kq, x31_6, rfl, HA, HJ6, HO_116002, HO_116003, BK101, BK115, HI102, HB⟩ := hcut
   cases kq with
   | zero => exact absurd HA.out (by simp [YB.j0])
   | succ kj6 =>
    have H := HA.out
    clear HA
    simp only [YB.j0] at H
    by_cases c21 : x31_6 = true
    ·subst c21
     have H1 : ((Yu.f t117 t118 t119 t120 t118 2).bind fun bt121 => (if bt121.2.2.2.2.2.2.1 = 0 then (some (t103, t104, t105, t108, (a0.size : Int), 0)) else (some (0, (⟨#[]⟩ : ByteArray), ([] : List ByteArray), ([] : List (S37)), bt121.2.2.2.2.2.2.2, bt121.2.2.2.2.2.2.1)))) = some (r1, r2, r3, r4, r5, r6) := by rw [if_pos rfl] at H; exact H
     clear H
     have H := H1
     clear H1
     replace H := Option.bind_eq_some_iff.mp H
     obtain ⟨⟨t121, t122, t123, t126, t129, t130, t131, t132⟩, A220, H⟩ := H
     replace H : (if t131 = 0 then (some (t103, t104, t105, t108, (a0.size : Int), 0)) else (some (0, (⟨#[]⟩ : ByteArray), ([] : List ByteArray), ([] : List (S37)), t132, t131))) = some (r1, r2, r3, r4, r5, r6) := H
     have A22 := Y0.mk A220
     clear A220
     by_cases c23 : t131 = 0
     ·rw [if_pos c23] at H
      have c23b0 : (t131 == 0) = true := beq_iff_eq.mpr c23
      have c23b1 : (t131 != 0) = false := bne_eq_false_iff_eq.mpr c23
      clear c23
      simp only [Option.some.injEq, Prod.mk.injEq] at H
      obtain ⟨rfl, rfl, rfl, rfl, rfl, rfl⟩ := H
      obtain ⟨hcz24_0, hcz24_1, hcz24_2, hcz24_3, hfz24_0, hfz24_1, hfz24_2, hfz24_3⟩ := YA HI102.out.1
      go_wp2_with (first | ((with_reducible refine Yl (f := 57) rfl ?_); refine YO (some 37) rfl rfl Tryd.func57 Z4 rfl #[.pointer (some ⟨gb102, 0, none⟩), .int .i64 t118, .int .i64 2] rfl Z0 ?_; (with_reducible refine (Yu.calls gb102 t117 t118 t119 t120 t118 2 t121 t122 t123 t126 t129 t130 t131 t132 w _ ?side1 ?side2 A22.out).mono ?_); (case side1 => exact QI81_102); (case side2 => exact QB); rintro e w25 ⟨v124, v127, rfl, ho0, ho1, hi, hb, hk⟩; refine ⟨_, rfl, ?_⟩; have n0_ := Y0.mk (Kd.R_mono (Kd.R_told (Kd.R_oldK (YC.apart (show YC w _ gb102 t117 t118 t119 t120 from QI81_102) Zo (by decide)) hk) (Kd.R_base ho0)) (fun _ h_ => h_.1)); have n1_ := Y0.mk (Kd.N_mono (Kd.N_told (Kd.N_told (Kd.N_oldK (Kd.N_mono (ok := fun k_ => (((w.heap.size ≤ k_)) ∧ (some k_ ≠ (.slice Ao15 t105.length co15 : Value).ownBlock ∧ (k_ ≠ gb101 ∧ (k_ ≠ gb115 ∧ k_ ≠ gb102))))) ZF (fun k_ hk_ => (⟨hk_, hk_.2.2.2.2⟩ : _ ∧ k_ ≠ gb102))) hk) (Kd.R_base ho0)) (Kd.N_base ho1)) (fun _ h_ => h_.1)); have n2_ := Y0.mk (Y1.blk hk (g' := gb101) (o := .cells #[.int .i64 0, .string (⟨#[]⟩ : ByteArray), .slice none 0 0, .slice none 0 0] 37 (0, 0)) QQ NB101_102.out (by simp)); have n3_ := Y0.mk (Y1.blk hk (g' := gb115) (o := .cells #[.int .i64 t103, .string t104, .slice Ao15 t105.length co15, .slice Ao16 t108.length co16] 37 (0, 0)) QQ NB115_102.out (by simp)); have n4_ := Y0.mk (Kd.R_lower (Kd.R_new' (Kd.R_newM (M := fun k_ => (w.heap.size ≤ k_)) (Kd.R_mono (ok' := fun k_ => True) ho0 (fun _ hk_ => trivial)) (Yf QB) (fun k_ h_ => h_)) (Kd.R_lt Zo)) (Yf QB)); have n5_ := Y0.mk (Kd.N_lower (Kd.N_mono (ok' := fun k_ => (w.heap.size ≤ k_) ∧ some k_ ≠ (v124 : Value).ownBlock ∧ some k_ ≠ (.slice Ao15 t105.length co15 : Value).ownBlock ∧ some k_ ≠ (.slice Ao16 t108.length co16 : Value).ownBlock ∧ k_ ≠ gb101 ∧ k_ ≠ gb115 ∧ k_ ≠ gb102) ho1 (fun k_ hk_ => ⟨(Nat.le_trans (Yf QB) hk_.1), hk_.2, (Kd.fresh' (Kd.R_lt Zo) k_ hk_.1), (Kd.fresh' (Kd.N_lt ZF) k_ hk_.1), (Kd.freshB (g := gb101) (o := .cells #[.int .i64 0, .string (⟨#[]⟩ : ByteArray), .slice none 0 0, .slice none 0 0] 37 (0, 0)) QQ k_ hk_.1), (Kd.freshB (g := gb115) (o := .cells #[.int .i64 t103, .string t104, .slice Ao15 t105.length co15, .slice Ao16 t108.length co16] 37 (0, 0)) QQ k_ hk_.1), (YC.fresh QI81_102 k_ hk_.1)⟩)) (Yf QB)); have n6_ := Y0.mk (hb); have n7_ := Y0.mk (hi); clear HO_116002 HO_116003 BK101 BK115 HB HI102; have HO_116002 := n0_; have HO_116003 := n1_; have BK101 := n2_; have BK115 := n3_; have HO125 := n4_; have HO128 := n5_; have HB := n6_; have HI102 := n7_; clear n0_ n1_ n2_ n3_ n4_ n5_ n6_ n7_; (try clear hb); (try clear hb2); (try clear hk); (try clear hi); (try clear ho0); (try clear ho1); obtain ⟨HGz26, hgz26⟩ := HI102.out; have hcz26_0 := Y1r HGz26; have hcz26_1 := Y1s HGz26; have hcz26_2 := Y1t HGz26; have hcz26_3 := Y1u HGz26; have hfz26_0 := Y6 HGz26 0; have hfz26_1 := Y6 HGz26 1; have hfz26_2 := Y6 HGz26 2; have hfz26_3 := Y6 HGz26 3; clear HGz26 hgz26; have hnb27 := NB115_101.out; have hnc27 := NB101_115.out; have hnb28 := NB115_102.out; have hnc28 := NB102_115.out; obtain ⟨hcz29_0, hcz29_1, hcz29_2, hcz29_3, hfz29_0, hfz29_1, hfz29_2, hfz29_3⟩ := YA BK115.out; have hnb30 := NB101_102.out; have hnc30 := NB102_101.out; obtain ⟨hcz31_0, hcz31_1, hcz31_2, hcz31_3, hfz31_0, hfz31_1, hfz31_2, hfz31_3⟩ := YA BK101.out))
      refine bodyPost_ret (Y1O rfl _ _ gb101 37 #[.int .i64 t103, .string t104, .slice Ao15 t105.length co15, .slice Ao16 t108.length co16] (0, 0) _ rfl Z2C Tryd.underlying37 rfl Z4) rfl ?_
      exact ⟨_, _, Z2, by (with_reducible repeat (first | apply Kd.R_alloc | apply Kd.R_drewN | apply Kd.R_drew)); exact Kd.R_mono (Kd.R_far (p := ⟨gb101, 3, none⟩) (Kd.R_far (p := ⟨gb101, 2, none⟩) (Kd.R_far (p := ⟨gb101, 1, none⟩) (Kd.R_far (p := ⟨gb101, 0, none⟩) (Kd.R_types HO_116002.out BK101.out (by decide)) (fun _ hk => hk.2) (.int .i64 t103)) (fun _ hk => hk.2) (.string t104)) (fun _ hk => hk.2) (.slice Ao15 t105.length co15)) (fun _ hk => hk.2) (.slice Ao16 t108.length co16)) (fun _ hk => hk.1.1), by (with_reducible repeat (first | apply Kd.N_alloc | apply Kd.N_drewN | apply Kd.N_drew)); exact Kd.N_mono (Kd.N_far (p := ⟨gb101, 3, none⟩) (Kd.N_far (p := ⟨gb101, 2, none⟩) (Kd.N_far (p := ⟨gb101, 1, none⟩) (Kd.N_far (p := ⟨gb101, 0, none⟩) (Kd.N_mono HO_116003.out (fun k_ hk => (⟨hk, hk.1.1.2.2.1⟩ : _ ∧ k_ ≠ gb101))) (fun _ hk => hk.2) (.int .i64 t103)) (fun _ hk => hk.2) (.string t104)) (fun _ hk => hk.2) (.slice Ao15 t105.length co15)) (fun _ hk => hk.2) (.slice Ao16 t108.length co16)) (fun _ hk => ⟨hk.1.1.1.1, hk.1.1.1.2.1⟩), QB⟩
     ·rw [if_neg c23] at H
      have c23b0 : (t131 == 0) = false := beq_eq_false_iff_ne.mpr c23
      have c23b1 : (t131 != 0) = true := bne_iff_ne.mpr c23
      simp only [Option.some.injEq, Prod.mk.injEq] at H
      obtain ⟨rfl, rfl, rfl, rfl, rfl, rfl⟩ := H
      obtain ⟨hcz32_0, hcz32_1, hcz32_2, hcz32_3, hfz32_0, hfz32_1, hfz32_2, hfz32_3⟩ := YA HI102.out.1
      try go_wp2_with (first | ((with_reducible refine Yl (f := 57) rfl ?_); refine YO (some 37) rfl rfl Tryd.func57 Z4 rfl #[.pointer (some ⟨gb102, 0, none⟩), .int .i64 t118, .int .i64 2] rfl Z0 ?_; (with_reducible refine (Yu.calls gb102 t117 t118 t119 t120 t118 2 t121 t122 t123 t126 t129 t130 t131 t132 w _ ?side1 ?side2 A22.out).mono ?_); (case side1 => exact QI81_102); (case side2 => exact QB); rintro e w33 ⟨v124, v127, rfl, ho0, ho1, hi, hb, hk⟩; refine ⟨_, rfl, ?_⟩; have n0_ := Y0.mk (Kd.R_mono (Kd.R_told (Kd.R_oldK (YC.apart (show YC w _ gb102 t117 t118 t119 t120 from QI81_102) Zo (by decide)) hk) (Kd.R_base ho0)) (fun _ h_ => h_.1)); have n1_ := Y0.mk (Kd.N_mono (Kd.N_told (Kd.N_told (Kd.N_oldK (Kd.N_mono (ok := fun k_ => (((w.heap.size ≤ k_)) ∧ (some k_ ≠ (.slice Ao15 t105.length co15 : Value).ownBlock ∧ (k_ ≠ gb101 ∧ (k_ ≠ gb115 ∧ k_ ≠ gb102))))) ZF (fun k_ hk_ => (⟨hk_, hk_.2.2.2.2⟩ : _ ∧ k_ ≠ gb102))) hk) (Kd.R_base ho0)) (Kd.N_base ho1)) (fun _ h_ => h_.1)); have n2_ := Y0.mk (Y1.blk hk (g' := gb101) (o := .cells #[.int .i64 0, .string (⟨#[]⟩ : ByteArray), .slice none 0 0, .slice none 0 0] 37 (0, 0)) QQ NB101_102.out (by simp)); have n3_ := Y0.mk (Y1.blk hk (g' := gb115) (o := .cells #[.int .i64 t103, .string t104, .slice Ao15 t105.length co15, .slice Ao16 t108.length co16] 37 (0, 0)) QQ NB115_102.out (by simp)); have n4_ := Y0.mk (Kd.R_lower (Kd.R_new' (Kd.R_newM (M := fun k_ => (w.heap.size ≤ k_)) (Kd.R_mono (ok' := fun k_ => True) ho0 (fun _ hk_ => trivial)) (Yf QB) (fun k_ h_ => h_)) (Kd.R_lt Zo)) (Yf QB)); have n5_ := Y0.mk (Kd.N_lower (Kd.N_mono (ok' := fun k_ => (w.heap.size ≤ k_) ∧ some k_ ≠ (v124 : Value).ownBlock ∧ some k_ ≠ (.slice Ao15 t105.length co15 : Value).ownBlock ∧ some k_ ≠ (.slice Ao16 t108.length co16 : Value).ownBlock ∧ k_ ≠ gb101 ∧ k_ ≠ gb115 ∧ k_ ≠ gb102) ho1 (fun k_ hk_ => ⟨(Nat.le_trans (Yf QB) hk_.1), hk_.2, (Kd.fresh' (Kd.R_lt Zo) k_ hk_.1), (Kd.fresh' (Kd.N_lt ZF) k_ hk_.1), (Kd.freshB (g := gb101) (o := .cells #[.int .i64 0, .string (⟨#[]⟩ : ByteArray), .slice none 0 0, .slice none 0 0] 37 (0, 0)) QQ k_ hk_.1), (Kd.freshB (g := gb115) (o := .cells #[.int .i64 t103, .string t104, .slice Ao15 t105.length co15, .slice Ao16 t108.length co16] 37 (0, 0)) QQ k_ hk_.1), (YC.fresh QI81_102 k_ hk_.1)⟩)) (Yf QB)); have n6_ := Y0.mk (hb); have n7_ := Y0.mk (hi); clear HO_116002 HO_116003 BK101 BK115 HB HI102; have HO_116002 := n0_; have HO_116003 := n1_; have BK101 := n2_; have BK115 := n3_; have HO125 := n4_; have HO128 := n5_; have HB := n6_; have HI102 := n7_; clear n0_ n1_ n2_ n3_ n4_ n5_ n6_ n7_; (try clear hb); (try clear hb2); (try clear hk); (try clear hi); (try clear ho0); (try clear ho1); obtain ⟨HGz34, hgz34⟩ := HI102.out; have hcz34_0 := Y1r HGz34; have hcz34_1 := Y1s HGz34; have hcz34_2 := Y1t HGz34; have hcz34_3 := Y1u HGz34; have hfz34_0 := Y6 HGz34 0; have hfz34_1 := Y6 HGz34 1; have hfz34_2 := Y6 HGz34 2; have hfz34_3 := Y6 HGz34 3; clear HGz34 hgz34))
      have n_ := Y4q (Kd.R_drew HO_116002.out) (Kd.N_drew HO_116003.out) (Kd.R_drew HO125.out) (Kd.N_drew HO128.out) (Yb BK101.out) (Yb BK115.out) (YC.drew HI102.out) (YP HB.out)
      clear HO_116002
      clear HO_116003
      clear HO125
      clear HO128
      clear BK101
      clear BK115
      clear HI102
      clear HB
      obtain ⟨HO_116002, HO_116003, HO125, HO128, BK101, BK115, HI102, HB⟩ := n_
      refine Y1m (n := 12) (S := fun w' => w'.cell? ⟨gb102, 0, none⟩ = some (.string t129) ∧ w'.cell? ⟨gb102, 1, none⟩ = some (.int .i64 t130) ∧ w'.cell? ⟨gb102, 2, none⟩ = some (.int .i64 t131) ∧ w'.cell? ⟨gb102, 3, none⟩ = some (.int .i64 t132)) (ds := []) Y5G Z4 rfl rfl ⟨Y1r HI102.out.1, Y1s HI102.out.1, Y1t HI102.out.1, Y1u HI102.out.1⟩ (fun hHeld => ?_); refine Y11 YB.tab9 YB.bits9 (fun HT_ HW_ => ?_)
      generalize w33.drew = w35 at HO_116002 HO_116003 HO125 HO128 BK101 BK115 HI102 HB hHeld ⊢
      refine pY 0 43 Y5H ?_
      refine pY 1 44 Y5I ?_
      refine pY 2 45 Y5J ?_
      refine pY 3 46 Y6k ?_
      refine pY 5 48 Y5f ?_
      refine pY 6 49 Y5g ?_
      refine pY 7 50 Y5h ?_
      refine pT 4 47 Y5i ?_
      refine pT 8 51 Y4i ?_
      refine Y2Q (i := 9) (N := none) Y3R rfl rfl (Y1b HT_.out Z4) (by decide) (fun K hK => ?_)
      have hs36 : w35.cell? ⟨gb101, 0, none⟩ = some (.int .i64 0) := (Y2 BK101.out 0).trans rfl
      have hfs36 := Y6 BK101.out 0
      have hns36_1 := NB115_101.out
      have hms36_1 := NB101_115.out
      have hs37 : w35.cell? ⟨gb101, 1, none⟩ = some (.string (⟨#[]⟩ : ByteArray)) := (Y2 BK101.out 1).trans rfl
      have hfs37 := Y6 BK101.out 1
      have hns37_1 := NB115_101.out
      have hms37_1 := NB101_115.out
      have hs38 : w35.cell? ⟨gb101, 2, none⟩ = some (.slice none 0 0) := (Y2 BK101.out 2).trans rfl
      have hfs38 := Y6 BK101.out 2
      have hns38_1 := NB115_101.out
      have hms38_1 := NB101_115.out
      have hs39 : w35.cell? ⟨gb101, 3, none⟩ = some (.slice none 0 0) := (Y2 BK101.out 3).trans rfl
      have hfs39 := Y6 BK101.out 3
      have hns39_1 := NB115_101.out
      have hms39_1 := NB101_115.out
      refine Y4W (w1 := ?_) (by rfl) rfl ?_ ?_
      rotate_left
      ·go_simp
       rfl
      refine hK.out _ _ ⟨((YQ (p := ⟨gb101, _, none⟩) NB102_101.out _).trans (((YQ (p := ⟨gb101, _, none⟩) NB102_101.out _).trans (((YQ (p := ⟨gb101, _, none⟩) NB102_101.out _).trans (((YQ (p := ⟨gb101, _, none⟩) NB102_101.out _).trans (hHeld.1)))))))), ((YQ (p := ⟨gb101, _, none⟩) NB102_101.out _).trans (((YQ (p := ⟨gb101, _, none⟩) NB102_101.out _).trans (((YQ (p := ⟨gb101, _, none⟩) NB102_101.out _).trans (((YQ (p := ⟨gb101, _, none⟩) NB102_101.out _).trans (hHeld.2.1)))))))), ((YQ (p := ⟨gb101, _, none⟩) NB102_101.out _).trans (((YQ (p := ⟨gb101, _, none⟩) NB102_101.out _).trans (((YQ (p := ⟨gb101, _, none⟩) NB102_101.out _).trans (((YQ (p := ⟨gb101, _, none⟩) NB102_101.out _).trans (hHeld.2.2.1)))))))), ((YQ (p := ⟨gb101, _, none⟩) NB102_101.out _).trans (((YQ (p := ⟨gb101, _, none⟩) NB102_101.out _).trans (((YQ (p := ⟨gb101, _, none⟩) NB102_101.out _).trans (((YQ (p := ⟨gb101, _, none⟩) NB102_101.out _).trans (hHeld.2.2.2))))))))⟩ (fun hHeld => ?_)
      clear hK K
      refine pY 10 3 Y3S ?_
      refine pY 11 4 Y3T ?_
      refine Y1S (Y1a HT_.out Z4) ?_
      try go_wp2
      refine bodyPost_ret (Y1O rfl _ _ gb101 37 #[.int .i64 0, .string (⟨#[]⟩ : ByteArray), .slice none 0 0, .slice none 0 0] (0, 0) _ rfl Z2a Tryd.underlying37 rfl Z4) rfl ?_
      exact Z2y
    ·replace c21 := Bool.eq_false_iff.mpr c21
     subst c21
     have H1 : (if t119 = 0 then (some (t103, t104, t105, t108, (a0.size : Int), 0)) else (some (0, (⟨#[]⟩ : ByteArray), ([] : List ByteArray), ([] : List (S37)), t120, t119))) = some (r1, r2, r3, r4, r5, r6) := by rw [if_neg (show ¬ (false = true) by decide)] at H; exact H
     clear H
     have H := H1
     clear H1
     by_cases c40 : t119 = 0
     ·rw [if_pos c40] at H
      have c40b0 : (t119 == 0) = true := beq_iff_eq.mpr c40
      have c40b1 : (t119 != 0) = false := bne_eq_false_iff_eq.mpr c40
      clear c40
      simp only [Option.some.injEq, Prod.mk.injEq] at H
      obtain ⟨rfl, rfl, rfl, rfl, rfl, rfl⟩ := H
      obtain ⟨hcz41_0, hcz41_1, hcz41_2, hcz41_3, hfz41_0, hfz41_1, hfz41_2, hfz41_3⟩ := YA HI102.out.1
      have hnb42 := NB115_101.out
      have hnc42 := NB101_115.out
      have hnb43 := NB115_102.out
      have hnc43 := NB102_115.out
      obtain ⟨hcz44_0, hcz44_1, hcz44_2, hcz44_3, hfz44_0, hfz44_1, hfz44_2, hfz44_3⟩ := YA BK115.out
      have hnb45 := NB101_102.out
      have hnc45 := NB102_101.out
      obtain ⟨hcz46_0, hcz46_1, hcz46_2, hcz46_3, hfz46_0, hfz46_1, hfz46_2, hfz46_3⟩ := YA BK101.out
      go_wp2
      refine bodyPost_ret (Y1O rfl _ _ gb101 37 #[.int .i64 t103, .string t104, .slice Ao15 t105.length co15, .slice Ao16 t108.length co16] (0, 0) _ rfl Z2C Tryd.underlying37 rfl Z4) rfl ?_
      exact ⟨_, _, Z2, by (with_reducible repeat (first | apply Kd.R_alloc | apply Kd.R_drewN | apply Kd.R_drew)); exact Kd.R_mono (Kd.R_far (p := ⟨gb101, 3, none⟩) (Kd.R_far (p := ⟨gb101, 2, none⟩) (Kd.R_far (p := ⟨gb101, 1, none⟩) (Kd.R_far (p := ⟨gb101, 0, none⟩) (Kd.R_types HO_116002.out BK101.out (by decide)) (fun _ hk => hk.2) (.int .i64 t103)) (fun _ hk => hk.2) (.string t104)) (fun _ hk => hk.2) (.slice Ao15 t105.length co15)) (fun _ hk => hk.2) (.slice Ao16 t108.length co16)) (fun _ hk => hk.1), by (with_reducible repeat (first | apply Kd.N_alloc | apply Kd.N_drewN | apply Kd.N_drew)); exact Kd.N_mono (Kd.N_far (p := ⟨gb101, 3, none⟩) (Kd.N_far (p := ⟨gb101, 2, none⟩) (Kd.N_far (p := ⟨gb101, 1, none⟩) (Kd.N_far (p := ⟨gb101, 0, none⟩) (Kd.N_mono HO_116003.out (fun k_ hk => (⟨hk, hk.2.2.1⟩ : _ ∧ k_ ≠ gb101))) (fun _ hk => hk.2) (.int .i64 t103)) (fun _ hk => hk.2) (.string t104)) (fun _ hk => hk.2) (.slice Ao15 t105.length co15)) (fun _ hk => hk.2) (.slice Ao16 t108.length co16)) (fun _ hk => ⟨hk.1.1, hk.1.2.1⟩), QB⟩
     ·rw [if_neg c40] at H
      have c40b0 : (t119 == 0) = false := beq_eq_false_iff_ne.mpr c40
      have c40b1 : (t119 != 0) = true := bne_iff_ne.mpr c40
      simp only [Option.some.injEq, Prod.mk.injEq] at H
      obtain ⟨rfl, rfl, rfl, rfl, rfl, rfl⟩ := H
      obtain ⟨hcz47_0, hcz47_1, hcz47_2, hcz47_3, hfz47_0, hfz47_1, hfz47_2, hfz47_3⟩ := YA HI102.out.1
      try go_wp2
      have n_ := Y3t (Kd.R_drew HO_116002.out) (Kd.N_drew HO_116003.out) (Yb BK101.out) (Yb BK115.out) (YC.drew HI102.out) (YP HB.out)
      clear HO_116002
      clear HO_116003
      clear BK101
      clear BK115
      clear HI102
      clear HB
      obtain ⟨HO_116002, HO_116003, BK101, BK115, HI102, HB⟩ := n_
      refine Y1m (n := 12) (S := fun w' => w'.cell? ⟨gb102, 0, none⟩ = some (.string t117) ∧ w'.cell? ⟨gb102, 1, none⟩ = some (.int .i64 t118) ∧ w'.cell? ⟨gb102, 2, none⟩ = some (.int .i64 t119) ∧ w'.cell? ⟨gb102, 3, none⟩ = some (.int .i64 t120)) (ds := []) Y5G Z4 rfl rfl ⟨Y1r HI102.out.1, Y1s HI102.out.1, Y1t HI102.out.1, Y1u HI102.out.1⟩ (fun hHeld => ?_); refine Y11 YB.tab9 YB.bits9 (fun HT_ HW_ => ?_)
      generalize wc.drew = w48 at HO_116002 HO_116003 BK101 BK115 HI102 HB hHeld ⊢
      refine pY 0 43 Y5H ?_
      refine pY 1 44 Y5I ?_
      refine pY 2 45 Y5J ?_
      refine pY 3 46 Y6k ?_
      refine pY 5 48 Y5f ?_
      refine pY 6 49 Y5g ?_
      refine pY 7 50 Y5h ?_
      refine pT 4 47 Y5i ?_
      refine pT 8 51 Y4i ?_
      refine Y2Q (i := 9) (N := none) Y3R rfl rfl (Y1b HT_.out Z4) (by decide) (fun K hK => ?_)
      have hs49 : w48.cell? ⟨gb101, 0, none⟩ = some (.int .i64 0) := (Y2 BK101.out 0).trans rfl
      have hfs49 := Y6 BK101.out 0
      have hns49_1 := NB115_101.out
      have hms49_1 := NB101_115.out
      have hs50 : w48.cell? ⟨gb101, 1, none⟩ = some (.string (⟨#[]⟩ : ByteArray)) := (Y2 BK101.out 1).trans rfl
      have hfs50 := Y6 BK101.out 1
      have hns50_1 := NB115_101.out
      have hms50_1 := NB101_115.out
      have hs51 : w48.cell? ⟨gb101, 2, none⟩ = some (.slice none 0 0) := (Y2 BK101.out 2).trans rfl
      have hfs51 := Y6 BK101.out 2
      have hns51_1 := NB115_101.out
      have hms51_1 := NB101_115.out
      have hs52 : w48.cell? ⟨gb101, 3, none⟩ = some (.slice none 0 0) := (Y2 BK101.out 3).trans rfl
      have hfs52 := Y6 BK101.out 3
      have hns52_1 := NB115_101.out
      have hms52_1 := NB101_115.out
      refine Y4W (w1 := ?_) (by rfl) rfl ?_ ?_
      rotate_left
      ·go_simp
       rfl
      refine hK.out _ _ ⟨((YQ (p := ⟨gb101, _, none⟩) NB102_101.out _).trans (((YQ (p := ⟨gb101, _, none⟩) NB102_101.out _).trans (((YQ (p := ⟨gb101, _, none⟩) NB102_101.out _).trans (((YQ (p := ⟨gb101, _, none⟩) NB102_101.out _).trans (hHeld.1)))))))), ((YQ (p := ⟨gb101, _, none⟩) NB102_101.out _).trans (((YQ (p := ⟨gb101, _, none⟩) NB102_101.out _).trans (((YQ (p := ⟨gb101, _, none⟩) NB102_101.out _).trans (((YQ (p := ⟨gb101, _, none⟩) NB102_101.out _).trans (hHeld.2.1)))))))), ((YQ (p := ⟨gb101, _, none⟩) NB102_101.out _).trans (((YQ (p := ⟨gb101, _, none⟩) NB102_101.out _).trans (((YQ (p := ⟨gb101, _, none⟩) NB102_101.out _).trans (((YQ (p := ⟨gb101, _, none⟩) NB102_101.out _).trans (hHeld.2.2.1)))))))), ((YQ (p := ⟨gb101, _, none⟩) NB102_101.out _).trans (((YQ (p := ⟨gb101, _, none⟩) NB102_101.out _).trans (((YQ (p := ⟨gb101, _, none⟩) NB102_101.out _).trans (((YQ (p := ⟨gb101, _, none⟩) NB102_101.out _).trans (hHeld.2.2.2))))))))⟩ (fun hHeld => ?_)
      clear hK K
      refine pY 10 3 Y3S ?_
      refine pY 11 4 Y3T ?_
      refine Y1S (Y1a HT_.out Z4) ?_
      try go_wp2
      refine bodyPost_ret (Y1O rfl _ _ gb101 37 #[.int .i64 0, .string (⟨#[]⟩ : ByteArray), .slice none 0 0, .slice none 0 0] (0, 0) _ rfl Z2a Tryd.underlying37 rfl Z4) rfl ?_
      exact Z2y
def Y1c.f (a0 : Int) : Option (ByteArray) := if a0 = 5 then (some (⟨#[42]⟩ : ByteArray)) else (if a0 = 6 then (some (⟨#[43]⟩ : ByteArray)) else (some (⟨#[63]⟩ : ByteArray)))
set_option maxHeartbeats 8000000 in
set_option maxRecDepth 100000 in
theorem Y1c.calls (a0 : Int) (r : ByteArray) (w : World) (h : Y1c.f a0 = some r) :
  Calls Tryd.prog 59 #[.int .i64 a0] w fun e w' => e = .returned (.string r) ∧ Y2v w w' := by
 have H : (if a0 = 5 then (some (⟨#[42]⟩ : ByteArray)) else (if a0 = 6 then (some (⟨#[43]⟩ : ByteArray)) else (some (⟨#[63]⟩ : ByteArray)))) = some r := h
 clear h
 by_cases c2 : a0 = 5
 ·rw [if_pos c2] at H
  have c2b0 : (a0 == 5) = true := beq_iff_eq.mpr c2
  have c2b1 : (a0 != 5) = false := bne_eq_false_iff_eq.mpr c2
  clear c2
  obtain rfl := Option.some.inj H
  go_enter Tryd.func59, Tryd.ntmps59
  go_wp2
  go_ret
  exact ⟨Z8, Zk⟩
 ·rw [if_neg c2] at H
  have c2b0 : (a0 == 5) = false := beq_eq_false_iff_ne.mpr c2
  have c2b1 : (a0 != 5) = true := bne_iff_ne.mpr c2
  by_cases c3 : a0 = 6
  ·rw [if_pos c3] at H
   have c3b0 : (a0 == 6) = true := beq_iff_eq.mpr c3
   have c3b1 : (a0 != 6) = false := bne_eq_false_iff_eq.mpr c3
   clear c3
   obtain rfl := Option.some.inj H
   go_enter Tryd.func59, Tryd.ntmps59
   go_wp2
   go_ret
   exact ⟨Z8, Zk⟩
  ·rw [if_neg c3] at H
   have c3b0 : (a0 == 6) = false := beq_eq_false_iff_ne.mpr c3
   have c3b1 : (a0 != 6) = true := bne_iff_ne.mpr c3
   obtain rfl := Option.some.inj H
   go_enter Tryd.func59, Tryd.ntmps59
   go_wp2
   go_ret
   exact ⟨Z8, Zk⟩
mutual
def Yg.l0 : Nat → ByteArray → Int → Int → ByteArray → List ByteArray → List (S37) → Option (ByteArray)
 | 0, _, _, _, _, _, _ => none
 | k + 1, x3, x4, x102000, x102001, x102002, x102003 => if x4 < (x102002.length : Int) then (if x4 > 0 then (if x3.size + 1 ≤ 9223372036854775807 then (if x3.size + 1 + 1 ≤ 9223372036854775807 then (if 0 ≤ x4 then (if x3.size + 1 + 1 + (Y39 ByteArray.empty x102002 x4).size ≤ 9223372036854775807 then (if x3.size + 1 + 1 + ((Y39 ByteArray.empty x102002 x4).size) + 1 ≤ 9223372036854775807 then (Yg.l0 k ((((x3 ++ (⟨#[124]⟩ : ByteArray)) ++ (⟨#[60]⟩ : ByteArray)) ++ (Y39 ByteArray.empty x102002 x4)) ++ (⟨#[62]⟩ : ByteArray)) (wrap64 (x4 + 1)) x102000 x102001 x102002 x102003) else (none)) else (none)) else (none)) else (none)) else (none)) else (if x3.size + 1 ≤ 9223372036854775807 then (if 0 ≤ x4 then (if x3.size + 1 + (Y39 ByteArray.empty x102002 x4).size ≤ 9223372036854775807 then (if x3.size + 1 + ((Y39 ByteArray.empty x102002 x4).size) + 1 ≤ 9223372036854775807 then (Yg.l0 k (((x3 ++ (⟨#[60]⟩ : ByteArray)) ++ (Y39 ByteArray.empty x102002 x4)) ++ (⟨#[62]⟩ : ByteArray)) (wrap64 (x4 + 1)) x102000 x102001 x102002 x102003) else (none)) else (none)) else (none)) else (none))) else (if x3.size + 1 ≤ 9223372036854775807 then (some (x3 ++ (⟨#[41]⟩ : ByteArray))) else (none))
def Yg.f : Nat → Int → ByteArray → List ByteArray → List (S37) → Option (ByteArray)
 | 0, _, _, _, _ => none
 | k + 1, a0_0, a0_1, l0_2, l0_3 => if a0_0 = 1 then (if 1 + a0_1.size ≤ 9223372036854775807 then (if 1 + a0_1.size + 1 ≤ 9223372036854775807 then (some (((⟨#[60]⟩ : ByteArray) ++ a0_1) ++ (⟨#[62]⟩ : ByteArray))) else (none)) else (none)) else (if a0_0 = 2 then (if 0 < (l0_3.length : Int) then ((YG.f k ((Yc l0_3 0).f0) ((Yc l0_3 0).f1) ((Yc l0_3 0).f2) ((Yc l0_3 0).f3)).bind fun t103 => (if 1 + t103.size ≤ 9223372036854775807 then (some ((⟨#[94]⟩ : ByteArray) ++ t103)) else (none))) else (none)) else (if a0_0 = 3 then (if 0 < (l0_3.length : Int) then ((YG.f k ((Yc l0_3 0).f0) ((Yc l0_3 0).f1) ((Yc l0_3 0).f2) ((Yc l0_3 0).f3)).bind fun t105 => (if t105.size + 1 ≤ 9223372036854775807 then (if 1 < (l0_3.length : Int) then ((YG.f k ((Yc l0_3 1).f0) ((Yc l0_3 1).f1) ((Yc l0_3 1).f2) ((Yc l0_3 1).f3)).bind fun t107 => (if t105.size + 1 + t107.size ≤ 9223372036854775807 then (some ((t105 ++ (⟨#[47]⟩ : ByteArray)) ++ t107)) else (none))) else (none)) else (none))) else (none)) else (if a0_0 = 4 then (if 0 < (l0_3.length : Int) then ((YG.f k ((Yc l0_3 0).f0) ((Yc l0_3 0).f1) ((Yc l0_3 0).f2) ((Yc l0_3 0).f3)).bind fun t109 => (if t109.size + 1 ≤ 9223372036854775807 then (if 1 < (l0_3.length : Int) then ((YG.f k ((Yc l0_3 1).f0) ((Yc l0_3 1).f1) ((Yc l0_3 1).f2) ((Yc l0_3 1).f3)).bind fun t111 => (if t109.size + 1 + t111.size ≤ 9223372036854775807 then (some ((t109 ++ (⟨#[124]⟩ : ByteArray)) ++ t111)) else (none))) else (none)) else (none))) else (none)) else (if a0_0 = 8 then (Yg.l0 k (⟨#[33, 40]⟩ : ByteArray) 0 a0_0 a0_1 l0_2 l0_3) else (if 0 < (l0_3.length : Int) then ((YG.f k ((Yc l0_3 0).f0) ((Yc l0_3 0).f1) ((Yc l0_3 0).f2) ((Yc l0_3 0).f3)).bind fun t115 => ((Y1c.f a0_0).bind fun t116 => (if t115.size + t116.size ≤ 9223372036854775807 then (some (t115 ++ t116)) else (none)))) else (none))))))
def YG.f : Nat → Int → ByteArray → List ByteArray → List (S37) → Option (ByteArray)
 | 0, _, _, _, _ => none
 | k + 1, a0_0, a0_1, l0_2, l0_3 => if a0_0 = 1 then ((Yg.f k a0_0 a0_1 l0_2 l0_3).bind fun t118 => (some t118)) else ((Yg.f k a0_0 a0_1 l0_2 l0_3).bind fun t119 => (if 1 + t119.size ≤ 9223372036854775807 then (if 1 + t119.size + 1 ≤ 9223372036854775807 then (some (((⟨#[40]⟩ : ByteArray) ++ t119) ++ (⟨#[41]⟩ : ByteArray))) else (none)) else (none)))
end
theorem Yg.mono_j : ∀ k, (∀ y0 y1 y2 y3, LeO (Yg.f k y0 y1 y2 y3) (Yg.f (k + 1) y0 y1 y2 y3)) ∧ (∀ y0 y1 y2 y3 y4 y5, LeO (Yg.l0 k y0 y1 y2 y3 y4 y5) (Yg.l0 (k + 1) y0 y1 y2 y3 y4 y5)) ∧ (∀ y0 y1 y2 y3, LeO (YG.f k y0 y1 y2 y3) (YG.f (k + 1) y0 y1 y2 y3))
 | 0 => ⟨fun _ _ _ _ r h => by simp [Yg.f] at h, fun _ _ _ _ _ _ r h => by simp [Yg.l0] at h, fun _ _ _ _ r h => by simp [YG.f] at h⟩
 | k + 1 => by
  obtain ⟨ih0, ih1, ih2⟩ := Yg.mono_j k
  refine ⟨?_, ?_, ?_⟩
  ·intro y0 y1 y2 y3
   unfold Yg.f
   exact QM
  ·intro y0 y1 y2 y3 y4 y5
   unfold Yg.l0
   exact QM
  ·intro y0 y1 y2 y3
   unfold YG.f
   exact QM
abbrev Yg.Spec (k : Nat) : Prop := ∀ (a0_0 : Int) (a0_1 : ByteArray) (A0_2 : Option Addr) (c0_2 : Nat) (l0_2 : List ByteArray) (A0_3 : Option Addr) (c0_3 : Nat) (l0_3 : List (S37)) (r : ByteArray) (w : World) (hr0_2 : Kd.C Kd.string w A0_2 l0_2.length l0_2) (hc0_2 : l0_2.length ≤ c0_2) (hr0_3 : Kd.C k37 w A0_3 l0_3.length l0_3) (hc0_3 : l0_3.length ≤ c0_3) (h : Yg.f k a0_0 a0_1 l0_2 l0_3 = some r),
  Calls Tryd.prog 29 #[.agg #[.int .i64 a0_0, .string a0_1, .slice A0_2 l0_2.length c0_2, .slice A0_3 l0_3.length c0_3]] w fun e w' => e = .returned (.string r) ∧ Below w.heap.size w w'
abbrev YG.Spec (k : Nat) : Prop := ∀ (a0_0 : Int) (a0_1 : ByteArray) (A0_2 : Option Addr) (c0_2 : Nat) (l0_2 : List ByteArray) (A0_3 : Option Addr) (c0_3 : Nat) (l0_3 : List (S37)) (r : ByteArray) (w : World) (hr0_2 : Kd.C Kd.string w A0_2 l0_2.length l0_2) (hc0_2 : l0_2.length ≤ c0_2) (hr0_3 : Kd.C k37 w A0_3 l0_3.length l0_3) (hc0_3 : l0_3.length ≤ c0_3) (h : YG.f k a0_0 a0_1 l0_2 l0_3 = some r),
  Calls Tryd.prog 58 #[.agg #[.int .i64 a0_0, .string a0_1, .slice A0_2 l0_2.length c0_2, .slice A0_3 l0_3.length c0_3]] w fun e w' => e = .returned (.string r) ∧ Below w.heap.size w w'
set_option maxHeartbeats 8000000 in
def Yg.T7 : Bool × List (List Nat × List Nat) := (true, [([], []), ([0], [0]), ([1], [1]), ([2], [2]), ([3], [3]), ([4], [4]), ([], []), ([6], [6]), ([7], [7]), ([8], [8]), ([9, 4], [9]), ([5, 10], [5, 10]), ([11, 10, 0, 1, 2, 3, 4, 5, 6, 7, 8, 9, 10, 11], [11])])
def Yg.B7 : List Nat := [0, 1, 3, 7, 15, 31, 0, 64, 192, 448, 991, 2047, 4095]
theorem Yg.tab7 : Y3x .any (Y3P Tryd.f29 7) = Yg.T7 := by kernel_rfl
theorem Yg.bits7 : Y1Y Yg.T7.2 Yg.B7 = true := by kernel_rfl
def Yg.T9 : Bool × List (List Nat × List Nat) := (true, [([], []), ([0], [0]), ([1], [1]), ([2], [2]), ([3], [3]), ([4], [4]), ([], []), ([6], [6]), ([7], [7]), ([8], [8]), ([9, 4], [9]), ([5, 10], [5, 10]), ([11, 10, 0, 1, 2, 3, 4, 5, 6, 7, 8, 9, 10, 11], [11])])
def Yg.B9 : List Nat := [0, 1, 3, 7, 15, 31, 0, 64, 192, 448, 991, 2047, 4095]
theorem Yg.tab9 : Y3x .any (Y3P Tryd.f29 9) = Yg.T9 := by kernel_rfl
theorem Yg.bits9 : Y1Y Yg.T9.2 Yg.B9 = true := by kernel_rfl
def Yg.T19 : Bool × List (List Nat × List Nat) := (true, [([], []), ([0], [0]), ([1], [1]), ([2], [2]), ([3], [3]), ([], []), ([5], [5]), ([6, 4], [6]), ([4, 7], [4, 7]), ([8, 7, 0, 1, 2, 3, 4, 5, 6, 7, 8], [8])])
def Yg.B19 : List Nat := [0, 1, 3, 7, 15, 0, 32, 127, 255, 511]
theorem Yg.tab19 : Y3x .any (Y3P Tryd.f29 19) = Yg.T19 := by kernel_rfl
theorem Yg.bits19 : Y1Y Yg.T19.2 Yg.B19 = true := by kernel_rfl
set_option maxRecDepth 100000 in
theorem Yg.step (k : Nat) (ih : ∀ j_ < k, Yg.Spec j_ ∧ YG.Spec j_) : ∀ (a0_0 : Int) (a0_1 : ByteArray) (A0_2 : Option Addr) (c0_2 : Nat) (l0_2 : List ByteArray) (A0_3 : Option Addr) (c0_3 : Nat) (l0_3 : List (S37)) (r : ByteArray) (w : World) (hr0_2 : Kd.C Kd.string w A0_2 l0_2.length l0_2) (hc0_2 : l0_2.length ≤ c0_2) (hr0_3 : Kd.C k37 w A0_3 l0_3.length l0_3) (hc0_3 : l0_3.length ≤ c0_3) (h : Yg.f k a0_0 a0_1 l0_2 l0_3 = some r),
  Calls Tryd.prog 29 #[.agg #[.int .i64 a0_0, .string a0_1, .slice A0_2 l0_2.length c0_2, .slice A0_3 l0_3.length c0_3]] w fun e w' => e = .returned (.string r) ∧ Below w.heap.size w w' := by
 intro a0_0 a0_1 A0_2 c0_2 l0_2 A0_3 c0_3 l0_3 r w hr0_2 hc0_2 hr0_3 hc0_3 h
 cases k with
 | zero => exact absurd h (by simp [Yg.f])
 | succ k =>
 simp only [Yg.f] at h
 have hu37 := Tryd.underlying37
 have HR0_2 := Y0.mk hr0_2
 have HC0_2 := Y0.mk hc0_2
 clear hr0_2 hc0_2
 have HR0_3 := Y0.mk hr0_3
 have HC0_3 := Y0.mk hc0_3
 clear hr0_3 hc0_3
 have HB := Y0.mk (Below.refl w.heap.size w)
 have H : (if a0_0 = 1 then (if 1 + a0_1.size ≤ 9223372036854775807 then (if 1 + a0_1.size + 1 ≤ 9223372036854775807 then (some (((⟨#[60]⟩ : ByteArray) ++ a0_1) ++ (⟨#[62]⟩ : ByteArray))) else (none)) else (none)) else (if a0_0 = 2 then (if 0 < (l0_3.length : Int) then ((YG.f k ((Yc l0_3 0).f0) ((Yc l0_3 0).f1) ((Yc l0_3 0).f2) ((Yc l0_3 0).f3)).bind fun t103 => (if 1 + t103.size ≤ 9223372036854775807 then (some ((⟨#[94]⟩ : ByteArray) ++ t103)) else (none))) else (none)) else (if a0_0 = 3 then (if 0 < (l0_3.length : Int) then ((YG.f k ((Yc l0_3 0).f0) ((Yc l0_3 0).f1) ((Yc l0_3 0).f2) ((Yc l0_3 0).f3)).bind fun t105 => (if t105.size + 1 ≤ 9223372036854775807 then (if 1 < (l0_3.length : Int) then ((YG.f k ((Yc l0_3 1).f0) ((Yc l0_3 1).f1) ((Yc l0_3 1).f2) ((Yc l0_3 1).f3)).bind fun t107 => (if t105.size + 1 + t107.size ≤ 9223372036854775807 then (some ((t105 ++ (⟨#[47]⟩ : ByteArray)) ++ t107)) else (none))) else (none)) else (none))) else (none)) else (if a0_0 = 4 then (if 0 < (l0_3.length : Int) then ((YG.f k ((Yc l0_3 0).f0) ((Yc l0_3 0).f1) ((Yc l0_3 0).f2) ((Yc l0_3 0).f3)).bind fun t109 => (if t109.size + 1 ≤ 9223372036854775807 then (if 1 < (l0_3.length : Int) then ((YG.f k ((Yc l0_3 1).f0) ((Yc l0_3 1).f1) ((Yc l0_3 1).f2) ((Yc l0_3 1).f3)).bind fun t111 => (if t109.size + 1 + t111.size ≤ 9223372036854775807 then (some ((t109 ++ (⟨#[124]⟩ : ByteArray)) ++ t111)) else (none))) else (none)) else (none))) else (none)) else (if a0_0 = 8 then (Yg.l0 k (⟨#[33, 40]⟩ : ByteArray) 0 a0_0 a0_1 l0_2 l0_3) else (if 0 < (l0_3.length : Int) then ((YG.f k ((Yc l0_3 0).f0) ((Yc l0_3 0).f1) ((Yc l0_3 0).f2) ((Yc l0_3 0).f3)).bind fun t115 => ((Y1c.f a0_0).bind fun t116 => (if t115.size + t116.size ≤ 9223372036854775807 then (some (t115 ++ t116)) else (none)))) else (none))))))) = some r := h
 clear h
 by_cases c2 : a0_0 = 1
 ·rw [if_pos c2] at H
  have c2b0 : (a0_0 == 1) = true := beq_iff_eq.mpr c2
  have c2b1 : (a0_0 != 1) = false := bne_eq_false_iff_eq.mpr c2
  clear c2
  by_cases c3 : 1 + a0_1.size ≤ 9223372036854775807
  ·rw [if_pos c3] at H
   have c3b0 := eq_true c3
   have c3b1 : decide (1 + a0_1.size ≤ 9223372036854775807) = true := decide_eq_true c3
   try have c3b2 : (9223372036854775807 < 1 + a0_1.size) = False := eq_false (Nat.not_lt.2 c3)
   by_cases c4 : 1 + a0_1.size + 1 ≤ 9223372036854775807
   ·rw [if_pos c4] at H
    have c4b0 := eq_true c4
    have c4b1 : decide (1 + a0_1.size + 1 ≤ 9223372036854775807) = true := decide_eq_true c4
    try have c4b2 : (9223372036854775807 < 1 + a0_1.size + 1) = False := eq_false (Nat.not_lt.2 c4)
    obtain rfl := Option.some.inj H
    go_enter Tryd.func29, Tryd.ntmps29
    go_wp2_with (first | ((with_reducible refine YF (N := 1) rfl ?_); refine YD ?hg (N := 1) ?hd (cs := #[.int .i64 a0_0, .string a0_1, .slice A0_2 l0_2.length c0_2, .slice A0_3 l0_3.length c0_3]) (t := 37) ?hr ?_; (case hd => rfl); (case hg => rfl); (case hr => exact Zb); intro gb101 hg w5 hbox hb; have n_ := Y2N (Y8 QB hb) (hbox) ((by rw [hg]; exact (Yf QB) : w.heap.size ≤ gb101)) ((by rw [hg]; exact (Yf QB) : w.heap.size ≤ gb101)); clear HB; obtain ⟨HB, BK101, GW101, GE101⟩ := n_; clear hb hbox hg; obtain ⟨hcz6_0, hcz6_1, hcz6_2, hcz6_3, hfz6_0, hfz6_1, hfz6_2, hfz6_3⟩ := YA BK101.out))
    go_ret
    exact Z2r
   ·rw [if_neg c4] at H
    exact Zn
  ·rw [if_neg c3] at H
   exact Zn
 ·rw [if_neg c2] at H
  have c2b0 : (a0_0 == 1) = false := beq_eq_false_iff_ne.mpr c2
  have c2b1 : (a0_0 != 1) = true := bne_iff_ne.mpr c2
  by_cases c7 : a0_0 = 2
  ·rw [if_pos c7] at H
   have c7b0 : (a0_0 == 2) = true := beq_iff_eq.mpr c7
   have c7b1 : (a0_0 != 2) = false := bne_eq_false_iff_eq.mpr c7
   clear c7
   by_cases c8 : 0 < (l0_3.length : Int)
   ·rw [if_pos c8] at H
    have c8b0 : decide (0 < (l0_3.length : Int)) = true := decide_eq_true c8
    have c8b1 : decide (0 < l0_3.length) = true := decide_eq_true (by omega)
    clear c8
    replace H := Option.bind_eq_some_iff.mp H
    obtain ⟨t103, A90, H⟩ := H
    replace H : (if 1 + t103.size ≤ 9223372036854775807 then (some ((⟨#[94]⟩ : ByteArray) ++ t103)) else (none)) = some r := H
    have A9 := Y0.mk A90
    clear A90
    by_cases c10 : 1 + t103.size ≤ 9223372036854775807
    ·rw [if_pos c10] at H
     have c10b0 := eq_true c10
     have c10b1 : decide (1 + t103.size ≤ 9223372036854775807) = true := decide_eq_true c10
     try have c10b2 : (9223372036854775807 < 1 + t103.size) = False := eq_false (Nat.not_lt.2 c10)
     obtain rfl := Option.some.inj H
     go_enter Tryd.func29, Tryd.ntmps29
     go_wp2_with (first | ((with_reducible refine YF (N := 1) rfl ?_); refine YD ?hg (N := 1) ?hd (cs := #[.int .i64 a0_0, .string a0_1, .slice A0_2 l0_2.length c0_2, .slice A0_3 l0_3.length c0_3]) (t := 37) ?hr ?_; (case hd => rfl); (case hg => rfl); (case hr => exact Zb); intro gb101 hg w11 hbox hb; have n_ := Y2N (Y8 QB hb) (hbox) ((by rw [hg]; exact (Yf QB) : w.heap.size ≤ gb101)) ((by rw [hg]; exact (Yf QB) : w.heap.size ≤ gb101)); clear HB; obtain ⟨HB, BK101, GW101, GE101⟩ := n_; clear hb hbox hg; obtain ⟨hcz12_0, hcz12_1, hcz12_2, hcz12_3, hfz12_0, hfz12_1, hfz12_2, hfz12_3⟩ := YA BK101.out; have p102 : 0 ≤ (0 : Int) := (by omega); have q102 : 0 < (l0_3.length : Int) := of_decide_eq_true Za; obtain ⟨ad102, A102_2, c102_2, A102_3, c102_3, e102, hx102_0, hx102_1, hx102_2, hx102_3, hl102_2, hi102_2, hl102_3, hi102_3⟩ := Y2f HR0_3.out 0 p102 q102; cases e102; have qi102 : (0 < l0_3.length) = True := eq_true (by omega); (try rw [show ((0 : Int)).toNat = 0 from rfl] at hx102_0 hx102_1 hx102_2 hx102_3); (try rw [show 0 * 4 = 0 from rfl] at hx102_0 hx102_1 hx102_2 hx102_3); (try rw [Addr.add_zero'] at hx102_0 hx102_1 hx102_2 hx102_3); replace hx102_0 := Y15 HB.out hx102_0; replace hx102_1 := Y15 HB.out hx102_1; replace hx102_2 := Y15 HB.out hx102_2; replace hx102_3 := Y15 HB.out hx102_3; have HR102_2 := Y0.mk hi102_2; have HC102_2 := Y0.mk hl102_2; clear hi102_2 hl102_2; have HR102_3 := Y0.mk hi102_3; have HC102_3 := Y0.mk hl102_3; clear hi102_3 hl102_3; replace p102 := eq_true p102; replace q102 := eq_true q102) | ((with_reducible refine Yl (f := 58) rfl ?_); refine YO (some 19) rfl rfl Tryd.func58 Z4 rfl #[.agg #[.int .i64 ((Yc l0_3 0).f0), .string ((Yc l0_3 0).f1), .slice A102_2 ((Yc l0_3 0).f2).length c102_2, .slice A102_3 ((Yc l0_3 0).f3).length c102_3]] rfl Z0 ?_; (with_reducible refine ((ih k (by omega)).2 ((Yc l0_3 0).f0) ((Yc l0_3 0).f1) _ _ ((Yc l0_3 0).f2) _ _ ((Yc l0_3 0).f3) t103 _ ?side1 ?side2 ?side3 ?side4 A9.out).mono ?_); (case side1 => exact Z1w); (case side2 => exact HC102_2.out); (case side3 => exact Z1x); (case side4 => exact HC102_3.out); rintro e w13 ⟨rfl, hb⟩; refine ⟨_, rfl, ?_⟩; have n_ := Y2d (Yt (g := gb101) (o := .cells #[.int .i64 a0_0, .string a0_1, .slice A0_2 l0_2.length c0_2, .slice (some ad102) l0_3.length c0_3] 37 (0, 0)) QQ hb) (Y8 QB hb); clear BK101 HB; obtain ⟨BK101, HB⟩ := n_; (try clear hb); (try clear hb2); (try clear hk); (try clear hi)))
     go_ret
     exact Z2r
    ·rw [if_neg c10] at H
     exact Zn
   ·rw [if_neg c8] at H
    exact Zn
  ·rw [if_neg c7] at H
   have c7b0 : (a0_0 == 2) = false := beq_eq_false_iff_ne.mpr c7
   have c7b1 : (a0_0 != 2) = true := bne_iff_ne.mpr c7
   by_cases c14 : a0_0 = 3
   ·rw [if_pos c14] at H
    have c14b0 : (a0_0 == 3) = true := beq_iff_eq.mpr c14
    have c14b1 : (a0_0 != 3) = false := bne_eq_false_iff_eq.mpr c14
    clear c14
    by_cases c15 : 0 < (l0_3.length : Int)
    ·rw [if_pos c15] at H
     have c15b0 : decide (0 < (l0_3.length : Int)) = true := decide_eq_true c15
     have c15b1 : decide (0 < l0_3.length) = true := decide_eq_true (by omega)
     clear c15
     replace H := Option.bind_eq_some_iff.mp H
     obtain ⟨t105, A160, H⟩ := H
     replace H : (if t105.size + 1 ≤ 9223372036854775807 then (if 1 < (l0_3.length : Int) then ((YG.f k ((Yc l0_3 1).f0) ((Yc l0_3 1).f1) ((Yc l0_3 1).f2) ((Yc l0_3 1).f3)).bind fun t107 => (if t105.size + 1 + t107.size ≤ 9223372036854775807 then (some ((t105 ++ (⟨#[47]⟩ : ByteArray)) ++ t107)) else (none))) else (none)) else (none)) = some r := H
     have A16 := Y0.mk A160
     clear A160
     by_cases c17 : t105.size + 1 ≤ 9223372036854775807
     ·rw [if_pos c17] at H
      have c17b0 := eq_true c17
      have c17b1 : decide (t105.size + 1 ≤ 9223372036854775807) = true := decide_eq_true c17
      try have c17b2 : (9223372036854775807 < t105.size + 1) = False := eq_false (Nat.not_lt.2 c17)
      by_cases c18 : 1 < (l0_3.length : Int)
      ·rw [if_pos c18] at H
       have c18b0 : decide (1 < (l0_3.length : Int)) = true := decide_eq_true c18
       have c18b1 : decide (1 < l0_3.length) = true := decide_eq_true (by omega)
       clear c18
       replace H := Option.bind_eq_some_iff.mp H
       obtain ⟨t107, A190, H⟩ := H
       replace H : (if t105.size + 1 + t107.size ≤ 9223372036854775807 then (some ((t105 ++ (⟨#[47]⟩ : ByteArray)) ++ t107)) else (none)) = some r := H
       have A19 := Y0.mk A190
       clear A190
       by_cases c20 : t105.size + 1 + t107.size ≤ 9223372036854775807
       ·rw [if_pos c20] at H
        have c20b0 := eq_true c20
        have c20b1 : decide (t105.size + 1 + t107.size ≤ 9223372036854775807) = true := decide_eq_true c20
        try have c20b2 : (9223372036854775807 < t105.size + 1 + t107.size) = False := eq_false (Nat.not_lt.2 c20)
        obtain rfl := Option.some.inj H
        go_enter Tryd.func29, Tryd.ntmps29
        try go_wp2_with (first | ((with_reducible refine YF (N := 1) rfl ?_); refine YD ?hg (N := 1) ?hd (cs := #[.int .i64 a0_0, .string a0_1, .slice A0_2 l0_2.length c0_2, .slice A0_3 l0_3.length c0_3]) (t := 37) ?hr ?_; (case hd => rfl); (case hg => rfl); (case hr => exact Zb); intro gb101 hg w21 hbox hb; have n_ := Y2N (Y8 QB hb) (hbox) ((by rw [hg]; exact (Yf QB) : w.heap.size ≤ gb101)) ((by rw [hg]; exact (Yf QB) : w.heap.size ≤ gb101)); clear HB; obtain ⟨HB, BK101, GW101, GE101⟩ := n_; clear hb hbox hg; obtain ⟨hcz22_0, hcz22_1, hcz22_2, hcz22_3, hfz22_0, hfz22_1, hfz22_2, hfz22_3⟩ := YA BK101.out))
        have n_ := Y2d (Yb BK101.out) (YP HB.out)
        clear BK101
        clear HB
        obtain ⟨BK101, HB⟩ := n_
        have p104 : 0 ≤ (0 : Int) := (by omega)
        have q104 : 0 < (l0_3.length : Int) := of_decide_eq_true Za
        obtain ⟨ad104, A104_2, c104_2, A104_3, c104_3, e104, hx104_0, hx104_1, hx104_2, hx104_3, hl104_2, hi104_2, hl104_3, hi104_3⟩ := Y2f HR0_3.out 0 p104 q104
        have hw104_3 := hx104_3
        (try rw [show ((0 : Int)).toNat = 0 from rfl] at hw104_3)
        (try rw [show 0 * 4 = 0 from rfl] at hw104_3)
        (try rw [Addr.add_zero'] at hw104_3)
        have hw104_2 := hx104_2
        (try rw [show ((0 : Int)).toNat = 0 from rfl] at hw104_2)
        (try rw [show 0 * 4 = 0 from rfl] at hw104_2)
        (try rw [Addr.add_zero'] at hw104_2)
        have hw104_1 := hx104_1
        (try rw [show ((0 : Int)).toNat = 0 from rfl] at hw104_1)
        (try rw [show 0 * 4 = 0 from rfl] at hw104_1)
        (try rw [Addr.add_zero'] at hw104_1)
        have hw104_0 := hx104_0
        (try rw [show ((0 : Int)).toNat = 0 from rfl] at hw104_0)
        (try rw [show 0 * 4 = 0 from rfl] at hw104_0)
        (try rw [Addr.add_zero'] at hw104_0)
        cases e104
        have qi104 : (0 < l0_3.length) = True := eq_true (by omega)
        (try rw [show ((0 : Int)).toNat = 0 from rfl] at hx104_0)
        (try rw [show 0 * 4 = 0 from rfl] at hx104_0)
        (try rw [Addr.add_zero'] at hx104_0)
        (try rw [show ((0 : Int)).toNat = 0 from rfl] at hx104_1)
        (try rw [show 0 * 4 = 0 from rfl] at hx104_1)
        (try rw [Addr.add_zero'] at hx104_1)
        (try rw [show ((0 : Int)).toNat = 0 from rfl] at hx104_2)
        (try rw [show 0 * 4 = 0 from rfl] at hx104_2)
        (try rw [Addr.add_zero'] at hx104_2)
        (try rw [show ((0 : Int)).toNat = 0 from rfl] at hx104_3)
        (try rw [show 0 * 4 = 0 from rfl] at hx104_3)
        (try rw [Addr.add_zero'] at hx104_3)
        replace hx104_0 := Y15 HB.out hx104_0
        replace hx104_1 := Y15 HB.out hx104_1
        replace hx104_2 := Y15 HB.out hx104_2
        replace hx104_3 := Y15 HB.out hx104_3
        have HR104_2 := Y0.mk hi104_2
        have HC104_2 := Y0.mk hl104_2
        clear hi104_2 hl104_2
        have HR104_3 := Y0.mk hi104_3
        have HC104_3 := Y0.mk hl104_3
        clear hi104_3 hl104_3
        replace p104 := eq_true p104
        replace q104 := eq_true q104
        have p106 : 0 ≤ (1 : Int) := (by omega)
        have q106 : 1 < (l0_3.length : Int) := of_decide_eq_true Za
        obtain ⟨ad106, A106_2, c106_2, A106_3, c106_3, e106, hx106_0, hx106_1, hx106_2, hx106_3, hl106_2, hi106_2, hl106_3, hi106_3⟩ := Y2f HR0_3.out 1 p106 q106
        have hw106_3 := hx106_3
        (try rw [show ((1 : Int)).toNat = 1 from rfl] at hw106_3)
        (try rw [show 1 * 4 = 4 from rfl] at hw106_3)
        (try simp only [Nat.reduceMul, Nat.reduceEqDiff, Go.Addr.add, ↓reduceIte] at hw106_3)
        have hw106_2 := hx106_2
        (try rw [show ((1 : Int)).toNat = 1 from rfl] at hw106_2)
        (try rw [show 1 * 4 = 4 from rfl] at hw106_2)
        (try simp only [Nat.reduceMul, Nat.reduceEqDiff, Go.Addr.add, ↓reduceIte] at hw106_2)
        have hw106_1 := hx106_1
        (try rw [show ((1 : Int)).toNat = 1 from rfl] at hw106_1)
        (try rw [show 1 * 4 = 4 from rfl] at hw106_1)
        (try simp only [Nat.reduceMul, Nat.reduceEqDiff, Go.Addr.add, ↓reduceIte] at hw106_1)
        have hw106_0 := hx106_0
        (try rw [show ((1 : Int)).toNat = 1 from rfl] at hw106_0)
        (try rw [show 1 * 4 = 4 from rfl] at hw106_0)
        (try simp only [Nat.reduceMul, Nat.reduceEqDiff, Go.Addr.add, ↓reduceIte] at hw106_0)
        obtain rfl : ad104 = ad106 := (by injection e106)
        (try simp only [show (1 : Int).toNat = 1 from rfl, Nat.reduceMul, Nat.reduceEqDiff, Go.Addr.add, ↓reduceIte] at hx106_0)
        (try simp only [show (1 : Int).toNat = 1 from rfl, Nat.reduceMul, Nat.reduceEqDiff, Go.Addr.add, ↓reduceIte] at hx106_1)
        (try simp only [show (1 : Int).toNat = 1 from rfl, Nat.reduceMul, Nat.reduceEqDiff, Go.Addr.add, ↓reduceIte] at hx106_2)
        (try simp only [show (1 : Int).toNat = 1 from rfl, Nat.reduceMul, Nat.reduceEqDiff, Go.Addr.add, ↓reduceIte] at hx106_3)
        have qi106 : (1 < l0_3.length) = True := eq_true (by omega)
        (try rw [show ((1 : Int)).toNat = 1 from rfl] at hx106_0)
        (try rw [show 1 * 4 = 4 from rfl] at hx106_0)
        (try rw [show ((1 : Int)).toNat = 1 from rfl] at hx106_1)
        (try rw [show 1 * 4 = 4 from rfl] at hx106_1)
        (try rw [show ((1 : Int)).toNat = 1 from rfl] at hx106_2)
        (try rw [show 1 * 4 = 4 from rfl] at hx106_2)
        (try rw [show ((1 : Int)).toNat = 1 from rfl] at hx106_3)
        (try rw [show 1 * 4 = 4 from rfl] at hx106_3)
        replace hx106_0 := Y15 HB.out hx106_0
        replace hx106_1 := Y15 HB.out hx106_1
        replace hx106_2 := Y15 HB.out hx106_2
        replace hx106_3 := Y15 HB.out hx106_3
        have HR106_2 := Y0.mk hi106_2
        have HC106_2 := Y0.mk hl106_2
        clear hi106_2 hl106_2
        have HR106_3 := Y0.mk hi106_3
        have HC106_3 := Y0.mk hl106_3
        clear hi106_3 hl106_3
        replace p106 := eq_true p106
        replace q106 := eq_true q106
        refine Y1m (n := 13) (S := fun w' => w'.cell? ⟨gb101, 0, none⟩ = some (.int .i64 a0_0) ∧ w'.cell? ⟨gb101, 1, none⟩ = some (.string a0_1) ∧ w'.cell? ⟨gb101, 2, none⟩ = some (.slice A0_2 l0_2.length c0_2) ∧ w'.cell? ⟨gb101, 3, none⟩ = some (.slice (some ad104) l0_3.length c0_3) ∧ w'.cell? ad104 = some (.int .i64 ((Yc l0_3 0).f0)) ∧ w'.cell? ⟨ad104.block, ad104.off + 1, none⟩ = some (.string ((Yc l0_3 0).f1)) ∧ w'.cell? ⟨ad104.block, ad104.off + 2, none⟩ = some (.slice A104_2 ((Yc l0_3 0).f2).length c104_2) ∧ w'.cell? ⟨ad104.block, ad104.off + 3, none⟩ = some (.slice A104_3 ((Yc l0_3 0).f3).length c104_3) ∧ w'.cell? ⟨ad104.block, ad104.off + 4, none⟩ = some (.int .i64 ((Yc l0_3 1).f0)) ∧ w'.cell? ⟨ad104.block, ad104.off + 4 + 1, none⟩ = some (.string ((Yc l0_3 1).f1)) ∧ w'.cell? ⟨ad104.block, ad104.off + 4 + 2, none⟩ = some (.slice A106_2 ((Yc l0_3 1).f2).length c106_2) ∧ w'.cell? ⟨ad104.block, ad104.off + 4 + 3, none⟩ = some (.slice A106_3 ((Yc l0_3 1).f3).length c106_3)) (ds := []) Y6l Z4 rfl rfl ⟨(Y2 BK101.out 0).trans rfl, (Y2 BK101.out 1).trans rfl, (Y2 BK101.out 2).trans rfl, (Y2 BK101.out 3).trans rfl, ((HB.out.cell (World.block_lt_of_cell? w _ hw104_0)).trans hw104_0), ((HB.out.cell (World.block_lt_of_cell? w _ hw104_1)).trans hw104_1), ((HB.out.cell (World.block_lt_of_cell? w _ hw104_2)).trans hw104_2), ((HB.out.cell (World.block_lt_of_cell? w _ hw104_3)).trans hw104_3), ((HB.out.cell (World.block_lt_of_cell? w _ hw106_0)).trans hw106_0), ((HB.out.cell (World.block_lt_of_cell? w _ hw106_1)).trans hw106_1), ((HB.out.cell (World.block_lt_of_cell? w _ hw106_2)).trans hw106_2), ((HB.out.cell (World.block_lt_of_cell? w _ hw106_3)).trans hw106_3)⟩ (fun hHeld => ?_); refine Y11 Yg.tab7 Yg.bits7 (fun HT_ HW_ => ?_)
        generalize w21.drew = w23 at BK101 HB HR104_2 HR104_3 HR106_2 HR106_3 hx104_0 hx104_1 hx104_2 hx104_3 hx106_0 hx106_1 hx106_2 hx106_3 hHeld ⊢
        refine pY 0 23 Y6m ?_
        refine pY 6 29 Y5j ?_
        refine pT 1 24 Y5k ?_
        refine pY 2 25 Y5l ?_
        refine pT 3 26 Y5m ?_
        refine pT 7 30 Y5n ?_
        refine pY 8 31 Y4j ?_
        refine pT 9 32 Y4k ?_
        refine Y2Q (i := 4) (N := some 27) Y4l rfl rfl (Y1b HT_.out Z4) (by decide) (fun K hK => ?_)
        refine Y1Q Tryd.func58 Z4 rfl #[.agg #[.int .i64 ((Yc l0_3 0).f0), .string ((Yc l0_3 0).f1), .slice A104_2 ((Yc l0_3 0).f2).length c104_2, .slice A104_3 ((Yc l0_3 0).f3).length c104_3]] (by rfl) rfl rfl Z0 ?_
        with_reducible refine ((ih k (by omega)).2 ((Yc l0_3 0).f0) ((Yc l0_3 0).f1) _ _ ((Yc l0_3 0).f2) _ _ ((Yc l0_3 0).f3) t105 _ ?side1 ?side2 ?side3 ?side4 A16.out).mono ?_
        (case side1 => exact Z1A)
        (case side2 => exact HC104_2.out)
        (case side3 => exact Z1B)
        (case side4 => exact HC104_3.out)
        rintro e w24 ⟨rfl, hb⟩
        refine ⟨_, rfl, ?_⟩
        have n_ := Y2d (Yt (g := gb101) (o := .cells #[.int .i64 a0_0, .string a0_1, .slice A0_2 l0_2.length c0_2, .slice (some ad104) l0_3.length c0_3] 37 (0, 0)) QQ hb) (Y8 QB hb)
        clear BK101
        clear HB
        obtain ⟨BK101, HB⟩ := n_
        (try clear hb)
        (try clear hb2)
        (try clear hk)
        (try clear hi)
        refine hK.out _ _ ⟨(Y2 BK101.out 0).trans rfl, (Y2 BK101.out 1).trans rfl, (Y2 BK101.out 2).trans rfl, (Y2 BK101.out 3).trans rfl, ((HB.out.cell (World.block_lt_of_cell? w _ hw104_0)).trans hw104_0), ((HB.out.cell (World.block_lt_of_cell? w _ hw104_1)).trans hw104_1), ((HB.out.cell (World.block_lt_of_cell? w _ hw104_2)).trans hw104_2), ((HB.out.cell (World.block_lt_of_cell? w _ hw104_3)).trans hw104_3), ((HB.out.cell (World.block_lt_of_cell? w _ hw106_0)).trans hw106_0), ((HB.out.cell (World.block_lt_of_cell? w _ hw106_1)).trans hw106_1), ((HB.out.cell (World.block_lt_of_cell? w _ hw106_2)).trans hw106_2), ((HB.out.cell (World.block_lt_of_cell? w _ hw106_3)).trans hw106_3)⟩ (fun hHeld => ?_)
        clear hK K
        refine Y1A (a' := ?_) ?_ ?_
        rotate_left
        ·show Act.put _ (some 27) _ = _
         simp only [Act.put, List.setIfInBounds_toArray, List.set_cons_zero, List.set_cons_succ, Y16, Y17]
         rfl
        refine pY 5 28 Y4m ?_
        refine Y2Q (i := 10) (N := some 33) Y4n rfl rfl (Y1b HT_.out Z4) (by decide) (fun K hK => ?_)
        refine Y1Q Tryd.func58 Z4 rfl #[.agg #[.int .i64 ((Yc l0_3 1).f0), .string ((Yc l0_3 1).f1), .slice A106_2 ((Yc l0_3 1).f2).length c106_2, .slice A106_3 ((Yc l0_3 1).f3).length c106_3]] (by rfl) rfl rfl Z0 ?_
        with_reducible refine ((ih k (by omega)).2 ((Yc l0_3 1).f0) ((Yc l0_3 1).f1) _ _ ((Yc l0_3 1).f2) _ _ ((Yc l0_3 1).f3) t107 _ ?side1 ?side2 ?side3 ?side4 A19.out).mono ?_
        (case side1 => exact Z13)
        (case side2 => exact HC106_2.out)
        (case side3 => exact Z14)
        (case side4 => exact HC106_3.out)
        rintro e w25 ⟨rfl, hb⟩
        refine ⟨_, rfl, ?_⟩
        have n_ := Y2d (Yt (g := gb101) (o := .cells #[.int .i64 a0_0, .string a0_1, .slice A0_2 l0_2.length c0_2, .slice (some ad104) l0_3.length c0_3] 37 (0, 0)) QQ hb) (Y8 QB hb)
        clear BK101
        clear HB
        obtain ⟨BK101, HB⟩ := n_
        (try clear hb)
        (try clear hb2)
        (try clear hk)
        (try clear hi)
        refine hK.out _ _ ⟨(Y2 BK101.out 0).trans rfl, (Y2 BK101.out 1).trans rfl, (Y2 BK101.out 2).trans rfl, (Y2 BK101.out 3).trans rfl, ((HB.out.cell (World.block_lt_of_cell? w _ hw104_0)).trans hw104_0), ((HB.out.cell (World.block_lt_of_cell? w _ hw104_1)).trans hw104_1), ((HB.out.cell (World.block_lt_of_cell? w _ hw104_2)).trans hw104_2), ((HB.out.cell (World.block_lt_of_cell? w _ hw104_3)).trans hw104_3), ((HB.out.cell (World.block_lt_of_cell? w _ hw106_0)).trans hw106_0), ((HB.out.cell (World.block_lt_of_cell? w _ hw106_1)).trans hw106_1), ((HB.out.cell (World.block_lt_of_cell? w _ hw106_2)).trans hw106_2), ((HB.out.cell (World.block_lt_of_cell? w _ hw106_3)).trans hw106_3)⟩ (fun hHeld => ?_)
        clear hK K
        refine Y1A (a' := ?_) ?_ ?_
        rotate_left
        ·show Act.put _ (some 33) _ = _
         simp only [Act.put, List.setIfInBounds_toArray, List.set_cons_zero, List.set_cons_succ, Y16, Y17]
         rfl
        refine pY 11 34 Y4o ?_
        refine pY 12 2 Y3U ?_
        refine Y1S (Y1a HT_.out Z4) ?_
        try go_wp2
        go_ret
        exact Z2r
       ·rw [if_neg c20] at H
        exact Zn
      ·rw [if_neg c18] at H
       exact Zn
     ·rw [if_neg c17] at H
      exact Zn
    ·rw [if_neg c15] at H
     exact Zn
   ·rw [if_neg c14] at H
    have c14b0 : (a0_0 == 3) = false := beq_eq_false_iff_ne.mpr c14
    have c14b1 : (a0_0 != 3) = true := bne_iff_ne.mpr c14
    by_cases c26 : a0_0 = 4
    ·rw [if_pos c26] at H
     have c26b0 : (a0_0 == 4) = true := beq_iff_eq.mpr c26
     have c26b1 : (a0_0 != 4) = false := bne_eq_false_iff_eq.mpr c26
     clear c26
     by_cases c27 : 0 < (l0_3.length : Int)
     ·rw [if_pos c27] at H
      have c27b0 : decide (0 < (l0_3.length : Int)) = true := decide_eq_true c27
      have c27b1 : decide (0 < l0_3.length) = true := decide_eq_true (by omega)
      clear c27
      replace H := Option.bind_eq_some_iff.mp H
      obtain ⟨t109, A280, H⟩ := H
      replace H : (if t109.size + 1 ≤ 9223372036854775807 then (if 1 < (l0_3.length : Int) then ((YG.f k ((Yc l0_3 1).f0) ((Yc l0_3 1).f1) ((Yc l0_3 1).f2) ((Yc l0_3 1).f3)).bind fun t111 => (if t109.size + 1 + t111.size ≤ 9223372036854775807 then (some ((t109 ++ (⟨#[124]⟩ : ByteArray)) ++ t111)) else (none))) else (none)) else (none)) = some r := H
      have A28 := Y0.mk A280
      clear A280
      by_cases c29 : t109.size + 1 ≤ 9223372036854775807
      ·rw [if_pos c29] at H
       have c29b0 := eq_true c29
       have c29b1 : decide (t109.size + 1 ≤ 9223372036854775807) = true := decide_eq_true c29
       try have c29b2 : (9223372036854775807 < t109.size + 1) = False := eq_false (Nat.not_lt.2 c29)
       by_cases c30 : 1 < (l0_3.length : Int)
       ·rw [if_pos c30] at H
        have c30b0 : decide (1 < (l0_3.length : Int)) = true := decide_eq_true c30
        have c30b1 : decide (1 < l0_3.length) = true := decide_eq_true (by omega)
        clear c30
        replace H := Option.bind_eq_some_iff.mp H
        obtain ⟨t111, A310, H⟩ := H
        replace H : (if t109.size + 1 + t111.size ≤ 9223372036854775807 then (some ((t109 ++ (⟨#[124]⟩ : ByteArray)) ++ t111)) else (none)) = some r := H
        have A31 := Y0.mk A310
        clear A310
        by_cases c32 : t109.size + 1 + t111.size ≤ 9223372036854775807
        ·rw [if_pos c32] at H
         have c32b0 := eq_true c32
         have c32b1 : decide (t109.size + 1 + t111.size ≤ 9223372036854775807) = true := decide_eq_true c32
         try have c32b2 : (9223372036854775807 < t109.size + 1 + t111.size) = False := eq_false (Nat.not_lt.2 c32)
         obtain rfl := Option.some.inj H
         go_enter Tryd.func29, Tryd.ntmps29
         try go_wp2_with (first | ((with_reducible refine YF (N := 1) rfl ?_); refine YD ?hg (N := 1) ?hd (cs := #[.int .i64 a0_0, .string a0_1, .slice A0_2 l0_2.length c0_2, .slice A0_3 l0_3.length c0_3]) (t := 37) ?hr ?_; (case hd => rfl); (case hg => rfl); (case hr => exact Zb); intro gb101 hg w33 hbox hb; have n_ := Y2N (Y8 QB hb) (hbox) ((by rw [hg]; exact (Yf QB) : w.heap.size ≤ gb101)) ((by rw [hg]; exact (Yf QB) : w.heap.size ≤ gb101)); clear HB; obtain ⟨HB, BK101, GW101, GE101⟩ := n_; clear hb hbox hg; obtain ⟨hcz34_0, hcz34_1, hcz34_2, hcz34_3, hfz34_0, hfz34_1, hfz34_2, hfz34_3⟩ := YA BK101.out))
         have n_ := Y2d (Yb BK101.out) (YP HB.out)
         clear BK101
         clear HB
         obtain ⟨BK101, HB⟩ := n_
         have p108 : 0 ≤ (0 : Int) := (by omega)
         have q108 : 0 < (l0_3.length : Int) := of_decide_eq_true Za
         obtain ⟨ad108, A108_2, c108_2, A108_3, c108_3, e108, hx108_0, hx108_1, hx108_2, hx108_3, hl108_2, hi108_2, hl108_3, hi108_3⟩ := Y2f HR0_3.out 0 p108 q108
         have hw108_3 := hx108_3
         (try rw [show ((0 : Int)).toNat = 0 from rfl] at hw108_3)
         (try rw [show 0 * 4 = 0 from rfl] at hw108_3)
         (try rw [Addr.add_zero'] at hw108_3)
         have hw108_2 := hx108_2
         (try rw [show ((0 : Int)).toNat = 0 from rfl] at hw108_2)
         (try rw [show 0 * 4 = 0 from rfl] at hw108_2)
         (try rw [Addr.add_zero'] at hw108_2)
         have hw108_1 := hx108_1
         (try rw [show ((0 : Int)).toNat = 0 from rfl] at hw108_1)
         (try rw [show 0 * 4 = 0 from rfl] at hw108_1)
         (try rw [Addr.add_zero'] at hw108_1)
         have hw108_0 := hx108_0
         (try rw [show ((0 : Int)).toNat = 0 from rfl] at hw108_0)
         (try rw [show 0 * 4 = 0 from rfl] at hw108_0)
         (try rw [Addr.add_zero'] at hw108_0)
         cases e108
         have qi108 : (0 < l0_3.length) = True := eq_true (by omega)
         (try rw [show ((0 : Int)).toNat = 0 from rfl] at hx108_0)
         (try rw [show 0 * 4 = 0 from rfl] at hx108_0)
         (try rw [Addr.add_zero'] at hx108_0)
         (try rw [show ((0 : Int)).toNat = 0 from rfl] at hx108_1)
         (try rw [show 0 * 4 = 0 from rfl] at hx108_1)
         (try rw [Addr.add_zero'] at hx108_1)
         (try rw [show ((0 : Int)).toNat = 0 from rfl] at hx108_2)
         (try rw [show 0 * 4 = 0 from rfl] at hx108_2)
         (try rw [Addr.add_zero'] at hx108_2)
         (try rw [show ((0 : Int)).toNat = 0 from rfl] at hx108_3)
         (try rw [show 0 * 4 = 0 from rfl] at hx108_3)
         (try rw [Addr.add_zero'] at hx108_3)
         replace hx108_0 := Y15 HB.out hx108_0
         replace hx108_1 := Y15 HB.out hx108_1
         replace hx108_2 := Y15 HB.out hx108_2
         replace hx108_3 := Y15 HB.out hx108_3
         have HR108_2 := Y0.mk hi108_2
         have HC108_2 := Y0.mk hl108_2
         clear hi108_2 hl108_2
         have HR108_3 := Y0.mk hi108_3
         have HC108_3 := Y0.mk hl108_3
         clear hi108_3 hl108_3
         replace p108 := eq_true p108
         replace q108 := eq_true q108
         have p110 : 0 ≤ (1 : Int) := (by omega)
         have q110 : 1 < (l0_3.length : Int) := of_decide_eq_true Za
         obtain ⟨ad110, A110_2, c110_2, A110_3, c110_3, e110, hx110_0, hx110_1, hx110_2, hx110_3, hl110_2, hi110_2, hl110_3, hi110_3⟩ := Y2f HR0_3.out 1 p110 q110
         have hw110_3 := hx110_3
         (try rw [show ((1 : Int)).toNat = 1 from rfl] at hw110_3)
         (try rw [show 1 * 4 = 4 from rfl] at hw110_3)
         (try simp only [Nat.reduceMul, Nat.reduceEqDiff, Go.Addr.add, ↓reduceIte] at hw110_3)
         have hw110_2 := hx110_2
         (try rw [show ((1 : Int)).toNat = 1 from rfl] at hw110_2)
         (try rw [show 1 * 4 = 4 from rfl] at hw110_2)
         (try simp only [Nat.reduceMul, Nat.reduceEqDiff, Go.Addr.add, ↓reduceIte] at hw110_2)
         have hw110_1 := hx110_1
         (try rw [show ((1 : Int)).toNat = 1 from rfl] at hw110_1)
         (try rw [show 1 * 4 = 4 from rfl] at hw110_1)
         (try simp only [Nat.reduceMul, Nat.reduceEqDiff, Go.Addr.add, ↓reduceIte] at hw110_1)
         have hw110_0 := hx110_0
         (try rw [show ((1 : Int)).toNat = 1 from rfl] at hw110_0)
         (try rw [show 1 * 4 = 4 from rfl] at hw110_0)
         (try simp only [Nat.reduceMul, Nat.reduceEqDiff, Go.Addr.add, ↓reduceIte] at hw110_0)
         obtain rfl : ad108 = ad110 := (by injection e110)
         (try simp only [show (1 : Int).toNat = 1 from rfl, Nat.reduceMul, Nat.reduceEqDiff, Go.Addr.add, ↓reduceIte] at hx110_0)
         (try simp only [show (1 : Int).toNat = 1 from rfl, Nat.reduceMul, Nat.reduceEqDiff, Go.Addr.add, ↓reduceIte] at hx110_1)
         (try simp only [show (1 : Int).toNat = 1 from rfl, Nat.reduceMul, Nat.reduceEqDiff, Go.Addr.add, ↓reduceIte] at hx110_2)
         (try simp only [show (1 : Int).toNat = 1 from rfl, Nat.reduceMul, Nat.reduceEqDiff, Go.Addr.add, ↓reduceIte] at hx110_3)
         have qi110 : (1 < l0_3.length) = True := eq_true (by omega)
         (try rw [show ((1 : Int)).toNat = 1 from rfl] at hx110_0)
         (try rw [show 1 * 4 = 4 from rfl] at hx110_0)
         (try rw [show ((1 : Int)).toNat = 1 from rfl] at hx110_1)
         (try rw [show 1 * 4 = 4 from rfl] at hx110_1)
         (try rw [show ((1 : Int)).toNat = 1 from rfl] at hx110_2)
         (try rw [show 1 * 4 = 4 from rfl] at hx110_2)
         (try rw [show ((1 : Int)).toNat = 1 from rfl] at hx110_3)
         (try rw [show 1 * 4 = 4 from rfl] at hx110_3)
         replace hx110_0 := Y15 HB.out hx110_0
         replace hx110_1 := Y15 HB.out hx110_1
         replace hx110_2 := Y15 HB.out hx110_2
         replace hx110_3 := Y15 HB.out hx110_3
         have HR110_2 := Y0.mk hi110_2
         have HC110_2 := Y0.mk hl110_2
         clear hi110_2 hl110_2
         have HR110_3 := Y0.mk hi110_3
         have HC110_3 := Y0.mk hl110_3
         clear hi110_3 hl110_3
         replace p110 := eq_true p110
         replace q110 := eq_true q110
         refine Y1m (n := 13) (S := fun w' => w'.cell? ⟨gb101, 0, none⟩ = some (.int .i64 a0_0) ∧ w'.cell? ⟨gb101, 1, none⟩ = some (.string a0_1) ∧ w'.cell? ⟨gb101, 2, none⟩ = some (.slice A0_2 l0_2.length c0_2) ∧ w'.cell? ⟨gb101, 3, none⟩ = some (.slice (some ad108) l0_3.length c0_3) ∧ w'.cell? ad108 = some (.int .i64 ((Yc l0_3 0).f0)) ∧ w'.cell? ⟨ad108.block, ad108.off + 1, none⟩ = some (.string ((Yc l0_3 0).f1)) ∧ w'.cell? ⟨ad108.block, ad108.off + 2, none⟩ = some (.slice A108_2 ((Yc l0_3 0).f2).length c108_2) ∧ w'.cell? ⟨ad108.block, ad108.off + 3, none⟩ = some (.slice A108_3 ((Yc l0_3 0).f3).length c108_3) ∧ w'.cell? ⟨ad108.block, ad108.off + 4, none⟩ = some (.int .i64 ((Yc l0_3 1).f0)) ∧ w'.cell? ⟨ad108.block, ad108.off + 4 + 1, none⟩ = some (.string ((Yc l0_3 1).f1)) ∧ w'.cell? ⟨ad108.block, ad108.off + 4 + 2, none⟩ = some (.slice A110_2 ((Yc l0_3 1).f2).length c110_2) ∧ w'.cell? ⟨ad108.block, ad108.off + 4 + 3, none⟩ = some (.slice A110_3 ((Yc l0_3 1).f3).length c110_3)) (ds := []) Y6l Z4 rfl rfl ⟨(Y2 BK101.out 0).trans rfl, (Y2 BK101.out 1).trans rfl, (Y2 BK101.out 2).trans rfl, (Y2 BK101.out 3).trans rfl, ((HB.out.cell (World.block_lt_of_cell? w _ hw108_0)).trans hw108_0), ((HB.out.cell (World.block_lt_of_cell? w _ hw108_1)).trans hw108_1), ((HB.out.cell (World.block_lt_of_cell? w _ hw108_2)).trans hw108_2), ((HB.out.cell (World.block_lt_of_cell? w _ hw108_3)).trans hw108_3), ((HB.out.cell (World.block_lt_of_cell? w _ hw110_0)).trans hw110_0), ((HB.out.cell (World.block_lt_of_cell? w _ hw110_1)).trans hw110_1), ((HB.out.cell (World.block_lt_of_cell? w _ hw110_2)).trans hw110_2), ((HB.out.cell (World.block_lt_of_cell? w _ hw110_3)).trans hw110_3)⟩ (fun hHeld => ?_); refine Y11 Yg.tab9 Yg.bits9 (fun HT_ HW_ => ?_)
         generalize w33.drew = w35 at BK101 HB HR108_2 HR108_3 HR110_2 HR110_3 hx108_0 hx108_1 hx108_2 hx108_3 hx110_0 hx110_1 hx110_2 hx110_3 hHeld ⊢
         refine pY 0 37 Y6m ?_
         refine pY 6 43 Y5j ?_
         refine pT 1 38 Y5k ?_
         refine pY 2 39 Y5l ?_
         refine pT 3 40 Y5m ?_
         refine pT 7 44 Y5n ?_
         refine pY 8 45 Y4j ?_
         refine pT 9 46 Y4k ?_
         refine Y2Q (i := 4) (N := some 41) Y4l rfl rfl (Y1b HT_.out Z4) (by decide) (fun K hK => ?_)
         refine Y1Q Tryd.func58 Z4 rfl #[.agg #[.int .i64 ((Yc l0_3 0).f0), .string ((Yc l0_3 0).f1), .slice A108_2 ((Yc l0_3 0).f2).length c108_2, .slice A108_3 ((Yc l0_3 0).f3).length c108_3]] (by rfl) rfl rfl Z0 ?_
         with_reducible refine ((ih k (by omega)).2 ((Yc l0_3 0).f0) ((Yc l0_3 0).f1) _ _ ((Yc l0_3 0).f2) _ _ ((Yc l0_3 0).f3) t109 _ ?side1 ?side2 ?side3 ?side4 A28.out).mono ?_
         (case side1 => exact Z1C)
         (case side2 => exact HC108_2.out)
         (case side3 => exact Z1D)
         (case side4 => exact HC108_3.out)
         rintro e w36 ⟨rfl, hb⟩
         refine ⟨_, rfl, ?_⟩
         have n_ := Y2d (Yt (g := gb101) (o := .cells #[.int .i64 a0_0, .string a0_1, .slice A0_2 l0_2.length c0_2, .slice (some ad108) l0_3.length c0_3] 37 (0, 0)) QQ hb) (Y8 QB hb)
         clear BK101
         clear HB
         obtain ⟨BK101, HB⟩ := n_
         (try clear hb)
         (try clear hb2)
         (try clear hk)
         (try clear hi)
         refine hK.out _ _ ⟨(Y2 BK101.out 0).trans rfl, (Y2 BK101.out 1).trans rfl, (Y2 BK101.out 2).trans rfl, (Y2 BK101.out 3).trans rfl, ((HB.out.cell (World.block_lt_of_cell? w _ hw108_0)).trans hw108_0), ((HB.out.cell (World.block_lt_of_cell? w _ hw108_1)).trans hw108_1), ((HB.out.cell (World.block_lt_of_cell? w _ hw108_2)).trans hw108_2), ((HB.out.cell (World.block_lt_of_cell? w _ hw108_3)).trans hw108_3), ((HB.out.cell (World.block_lt_of_cell? w _ hw110_0)).trans hw110_0), ((HB.out.cell (World.block_lt_of_cell? w _ hw110_1)).trans hw110_1), ((HB.out.cell (World.block_lt_of_cell? w _ hw110_2)).trans hw110_2), ((HB.out.cell (World.block_lt_of_cell? w _ hw110_3)).trans hw110_3)⟩ (fun hHeld => ?_)
         clear hK K
         refine Y1A (a' := ?_) ?_ ?_
         rotate_left
         ·show Act.put _ (some 41) _ = _
          simp only [Act.put, List.setIfInBounds_toArray, List.set_cons_zero, List.set_cons_succ, Y16, Y17]
          rfl
         refine pY 5 42 Y4m ?_
         refine Y2Q (i := 10) (N := some 47) Y4n rfl rfl (Y1b HT_.out Z4) (by decide) (fun K hK => ?_)
         refine Y1Q Tryd.func58 Z4 rfl #[.agg #[.int .i64 ((Yc l0_3 1).f0), .string ((Yc l0_3 1).f1), .slice A110_2 ((Yc l0_3 1).f2).length c110_2, .slice A110_3 ((Yc l0_3 1).f3).length c110_3]] (by rfl) rfl rfl Z0 ?_
         with_reducible refine ((ih k (by omega)).2 ((Yc l0_3 1).f0) ((Yc l0_3 1).f1) _ _ ((Yc l0_3 1).f2) _ _ ((Yc l0_3 1).f3) t111 _ ?side1 ?side2 ?side3 ?side4 A31.out).mono ?_
         (case side1 => exact Z1E)
         (case side2 => exact HC110_2.out)
         (case side3 => exact Z1F)
         (case side4 => exact HC110_3.out)
         rintro e w37 ⟨rfl, hb⟩
         refine ⟨_, rfl, ?_⟩
         have n_ := Y2d (Yt (g := gb101) (o := .cells #[.int .i64 a0_0, .string a0_1, .slice A0_2 l0_2.length c0_2, .slice (some ad108) l0_3.length c0_3] 37 (0, 0)) QQ hb) (Y8 QB hb)
         clear BK101
         clear HB
         obtain ⟨BK101, HB⟩ := n_
         (try clear hb)
         (try clear hb2)
         (try clear hk)
         (try clear hi)
         refine hK.out _ _ ⟨(Y2 BK101.out 0).trans rfl, (Y2 BK101.out 1).trans rfl, (Y2 BK101.out 2).trans rfl, (Y2 BK101.out 3).trans rfl, ((HB.out.cell (World.block_lt_of_cell? w _ hw108_0)).trans hw108_0), ((HB.out.cell (World.block_lt_of_cell? w _ hw108_1)).trans hw108_1), ((HB.out.cell (World.block_lt_of_cell? w _ hw108_2)).trans hw108_2), ((HB.out.cell (World.block_lt_of_cell? w _ hw108_3)).trans hw108_3), ((HB.out.cell (World.block_lt_of_cell? w _ hw110_0)).trans hw110_0), ((HB.out.cell (World.block_lt_of_cell? w _ hw110_1)).trans hw110_1), ((HB.out.cell (World.block_lt_of_cell? w _ hw110_2)).trans hw110_2), ((HB.out.cell (World.block_lt_of_cell? w _ hw110_3)).trans hw110_3)⟩ (fun hHeld => ?_)
         clear hK K
         refine Y1A (a' := ?_) ?_ ?_
         rotate_left
         ·show Act.put _ (some 47) _ = _
          simp only [Act.put, List.setIfInBounds_toArray, List.set_cons_zero, List.set_cons_succ, Y16, Y17]
          rfl
         refine pY 11 48 Y4o ?_
         refine pY 12 2 Y3U ?_
         refine Y1S (Y1a HT_.out Z4) ?_
         try go_wp2
         go_ret
         exact Z2r
        ·rw [if_neg c32] at H
         exact Zn
       ·rw [if_neg c30] at H
        exact Zn
      ·rw [if_neg c29] at H
       exact Zn
     ·rw [if_neg c27] at H
      exact Zn
    ·rw [if_neg c26] at H
     have c26b0 : (a0_0 == 4) = false := beq_eq_false_iff_ne.mpr c26
     have c26b1 : (a0_0 != 4) = true := bne_iff_ne.mpr c26
     by_cases c38 : a0_0 = 8
     ·rw [if_pos c38] at H
      have c38b0 : (a0_0 == 8) = true := beq_iff_eq.mpr c38
      have c38b1 : (a0_0 != 8) = false := bne_eq_false_iff_eq.mpr c38
      clear c38
      have H' := Y0.mk H
      clear H
      go_enter Tryd.func29, Tryd.ntmps29
      go_wp2_with (first | ((with_reducible refine YF (N := 1) rfl ?_); refine YD ?hg (N := 1) ?hd (cs := #[.int .i64 a0_0, .string a0_1, .slice A0_2 l0_2.length c0_2, .slice A0_3 l0_3.length c0_3]) (t := 37) ?hr ?_; (case hd => rfl); (case hg => rfl); (case hr => exact Zb); intro gb101 hg w39 hbox hb; have n_ := Y2N (Y8 QB hb) (hbox) ((by rw [hg]; exact (Yf QB) : w.heap.size ≤ gb101)) ((by rw [hg]; exact (Yf QB) : w.heap.size ≤ gb101)); clear HB; obtain ⟨HB, BK101, GW101, GE101⟩ := n_; clear hb hbox hg; obtain ⟨hcz40_0, hcz40_1, hcz40_2, hcz40_3, hfz40_0, hfz40_1, hfz40_2, hfz40_3⟩ := YA BK101.out))
      go_loopg [3, 4] k (fun kq v3 v4 w' => ∃ (x3_1 : ByteArray) (x4_1 : Int), v3 = .string x3_1 ∧ v4 = .int .i64 x4_1 ∧ Y0 (Yg.l0 kq x3_1 x4_1 a0_0 a0_1 l0_2 l0_3 = some r) ∧ Y0 (kq ≤ k) ∧ Y0 (w'.heap[gb101]? = some (.cells #[.int .i64 a0_0, .string a0_1, (.slice A0_2 l0_2.length c0_2), (.slice A0_3 l0_3.length c0_3)] 37 (0, 0))) ∧ Y0 (Below w.heap.size w w'))
      case atStart => exact ⟨((⟨#[33, 40]⟩ : ByteArray)), (0), Z8, Z8, H', ⟨Nat.le_refl _⟩, ⟨Z6⟩, ⟨QB⟩⟩
      case round =>
       clear H'
       try clear c1
       try clear p1
       try clear q1
       try clear hx1
       try clear qi1
       try clear c2
       try clear p2
       try clear c3
       try clear c5
       try clear c10
       try clear p10
       try clear q10
       try clear hx10
       try clear qi10
       try clear c11
       try clear p11
       try clear q11
       try clear hx11
       try clear qi11
       try clear c14
       try clear c14b0
       try clear c14b1
       try clear c15
       try clear c15b0
       try clear c15b1
       try clear c17
       try clear c17b0
       try clear c17b1
       try clear c17b2
       try clear c18
       try clear c18b0
       try clear c18b1
       try clear c20
       try clear c20b0
       try clear c20b1
       try clear c20b2
       try clear c26
       try clear c26b0
       try clear c26b1
       try clear c27
       try clear c27b0
       try clear c27b1
       try clear c29
       try clear c29b0
       try clear c29b1
       try clear c29b2
       try clear c30
       try clear c30b0
       try clear c30b1
       try clear c32
       try clear c32b0
       try clear c32b1
       try clear c32b2
       try clear c38
       try clear c38b0
       try clear c38b1
       try clear hcz22_0 hcz22_1 hcz22_2 hcz22_3
       try clear hcz34_0 hcz34_1 hcz34_2 hcz34_3
       try clear hcz40_0 hcz40_1 hcz40_2 hcz40_3
       try clear hfz22_0
       try clear hfz22_1
       try clear hfz22_2
       try clear hfz22_3
       try clear hfz34_0
       try clear hfz34_1
       try clear hfz34_2
       try clear hfz34_3
       try clear hfz40_0
       try clear hfz40_1
       try clear hfz40_2
       try clear hfz40_3
       try clear hx104_0
       try clear hx104_1
       try clear hx104_2
       try clear hx104_3
       try clear hx106_0
       try clear hx106_1
       try clear hx106_2
       try clear hx106_3
       try clear hx108_0
       try clear hx108_1
       try clear hx108_2
       try clear hx108_3
       try clear hx110_0
       try clear hx110_1
       try clear hx110_2
       try clear hx110_3
       try clear p104
       try clear p106
       try clear p108
       try clear p110
       try clear q104
       try clear q106
       try clear q108
       try clear q110
       obtain ⟨x3_1, x4_1, rfl, rfl, HA, HK1, BK101, HB⟩ := hrel
       cases gk with
       | zero => exact absurd HA.out (by simp [Yg.l0])
       | succ k1 =>
        have H := HA.out
        clear HA
        simp only [Yg.l0] at H
        by_cases c41 : x4_1 < (l0_2.length : Int)
        ·rw [if_pos c41] at H
         have c41b0 : decide (x4_1 < (l0_2.length : Int)) = true := decide_eq_true c41
         clear c41
         by_cases c42 : x4_1 > 0
         ·rw [if_pos c42] at H
          have c42b0 : decide (0 < x4_1) = true := decide_eq_true c42
          clear c42
          by_cases c43 : x3_1.size + 1 ≤ 9223372036854775807
          ·rw [if_pos c43] at H
           have c43b0 := eq_true c43
           have c43b1 : decide (x3_1.size + 1 ≤ 9223372036854775807) = true := decide_eq_true c43
           try have c43b2 : (9223372036854775807 < x3_1.size + 1) = False := eq_false (Nat.not_lt.2 c43)
           by_cases c44 : x3_1.size + 1 + 1 ≤ 9223372036854775807
           ·rw [if_pos c44] at H
            have c44b0 := eq_true c44
            have c44b1 : decide (x3_1.size + 1 + 1 ≤ 9223372036854775807) = true := decide_eq_true c44
            try have c44b2 : (9223372036854775807 < x3_1.size + 1 + 1) = False := eq_false (Nat.not_lt.2 c44)
            by_cases c45 : 0 ≤ x4_1
            ·rw [if_pos c45] at H
             have c45b0 : decide (0 ≤ x4_1) = true := decide_eq_true c45
             clear c45
             by_cases c46 : x3_1.size + 1 + 1 + (Y39 ByteArray.empty l0_2 x4_1).size ≤ 9223372036854775807
             ·rw [if_pos c46] at H
              have c46b0 := eq_true c46
              have c46b1 : decide (x3_1.size + 1 + 1 + (Y39 ByteArray.empty l0_2 x4_1).size ≤ 9223372036854775807) = true := decide_eq_true c46
              try have c46b2 : (9223372036854775807 < x3_1.size + 1 + 1 + (Y39 ByteArray.empty l0_2 x4_1).size) = False := eq_false (Nat.not_lt.2 c46)
              by_cases c47 : x3_1.size + 1 + 1 + ((Y39 ByteArray.empty l0_2 x4_1).size) + 1 ≤ 9223372036854775807
              ·rw [if_pos c47] at H
               have c47b0 := eq_true c47
               have c47b1 : decide (x3_1.size + 1 + 1 + ((Y39 ByteArray.empty l0_2 x4_1).size) + 1 ≤ 9223372036854775807) = true := decide_eq_true c47
               try have c47b2 : (9223372036854775807 < x3_1.size + 1 + 1 + ((Y39 ByteArray.empty l0_2 x4_1).size) + 1) = False := eq_false (Nat.not_lt.2 c47)
               have H' := Y0.mk H
               clear H
               obtain ⟨hcz48_0, hcz48_1, hcz48_2, hcz48_3, hfz48_0, hfz48_1, hfz48_2, hfz48_3⟩ := YA BK101.out
               have p112 : 0 ≤ (x4_1 : Int) := of_decide_eq_true Za
               have q112 : x4_1 < (l0_2.length : Int) := of_decide_eq_true Za
               obtain ⟨ad112, e112, hx112_0⟩ := Kd.at_string HR0_2.out x4_1 p112 q112
               cases e112
               replace hx112_0 := Y15 HB.out hx112_0
               replace p112 := eq_true p112
               replace q112 := eq_true q112
               go_wp2
               go_roundg k1
               case measure => have := HK1.out; omega
               case rel => exact ⟨((((x3_1 ++ (⟨#[124]⟩ : ByteArray)) ++ (⟨#[60]⟩ : ByteArray)) ++ (Y39 ByteArray.empty l0_2 x4_1)) ++ (⟨#[62]⟩ : ByteArray)), (wrap64 (x4_1 + 1)), Z8, Z8, H', ⟨ZV⟩, ⟨Z6⟩, ⟨QB⟩⟩
              ·rw [if_neg c47] at H
               exact Zn
             ·rw [if_neg c46] at H
              exact Zn
            ·rw [if_neg c45] at H
             exact Zn
           ·rw [if_neg c44] at H
            exact Zn
          ·rw [if_neg c43] at H
           exact Zn
         ·rw [if_neg c42] at H
          have c42b0 : decide (0 < x4_1) = false := decide_eq_false c42
          clear c42
          by_cases c49 : x3_1.size + 1 ≤ 9223372036854775807
          ·rw [if_pos c49] at H
           have c49b0 := eq_true c49
           have c49b1 : decide (x3_1.size + 1 ≤ 9223372036854775807) = true := decide_eq_true c49
           try have c49b2 : (9223372036854775807 < x3_1.size + 1) = False := eq_false (Nat.not_lt.2 c49)
           by_cases c50 : 0 ≤ x4_1
           ·rw [if_pos c50] at H
            have c50b0 : decide (0 ≤ x4_1) = true := decide_eq_true c50
            clear c50
            by_cases c51 : x3_1.size + 1 + (Y39 ByteArray.empty l0_2 x4_1).size ≤ 9223372036854775807
            ·rw [if_pos c51] at H
             have c51b0 := eq_true c51
             have c51b1 : decide (x3_1.size + 1 + (Y39 ByteArray.empty l0_2 x4_1).size ≤ 9223372036854775807) = true := decide_eq_true c51
             try have c51b2 : (9223372036854775807 < x3_1.size + 1 + (Y39 ByteArray.empty l0_2 x4_1).size) = False := eq_false (Nat.not_lt.2 c51)
             by_cases c52 : x3_1.size + 1 + ((Y39 ByteArray.empty l0_2 x4_1).size) + 1 ≤ 9223372036854775807
             ·rw [if_pos c52] at H
              have c52b0 := eq_true c52
              have c52b1 : decide (x3_1.size + 1 + ((Y39 ByteArray.empty l0_2 x4_1).size) + 1 ≤ 9223372036854775807) = true := decide_eq_true c52
              try have c52b2 : (9223372036854775807 < x3_1.size + 1 + ((Y39 ByteArray.empty l0_2 x4_1).size) + 1) = False := eq_false (Nat.not_lt.2 c52)
              have H' := Y0.mk H
              clear H
              obtain ⟨hcz53_0, hcz53_1, hcz53_2, hcz53_3, hfz53_0, hfz53_1, hfz53_2, hfz53_3⟩ := YA BK101.out
              have p113 : 0 ≤ (x4_1 : Int) := of_decide_eq_true Za
              have q113 : x4_1 < (l0_2.length : Int) := of_decide_eq_true Za
              obtain ⟨ad113, e113, hx113_0⟩ := Kd.at_string HR0_2.out x4_1 p113 q113
              cases e113
              replace hx113_0 := Y15 HB.out hx113_0
              replace p113 := eq_true p113
              replace q113 := eq_true q113
              go_wp2
              go_roundg k1
              case measure => have := HK1.out; omega
              case rel => exact ⟨(((x3_1 ++ (⟨#[60]⟩ : ByteArray)) ++ (Y39 ByteArray.empty l0_2 x4_1)) ++ (⟨#[62]⟩ : ByteArray)), (wrap64 (x4_1 + 1)), Z8, Z8, H', ⟨ZV⟩, ⟨Z6⟩, ⟨QB⟩⟩
             ·rw [if_neg c52] at H
              exact Zn
            ·rw [if_neg c51] at H
             exact Zn
           ·rw [if_neg c50] at H
            exact Zn
          ·rw [if_neg c49] at H
           exact Zn
        ·rw [if_neg c41] at H
         have c41b0 : decide (x4_1 < (l0_2.length : Int)) = false := decide_eq_false c41
         clear c41
         by_cases c54 : x3_1.size + 1 ≤ 9223372036854775807
         ·rw [if_pos c54] at H
          have c54b0 := eq_true c54
          have c54b1 : decide (x3_1.size + 1 ≤ 9223372036854775807) = true := decide_eq_true c54
          try have c54b2 : (9223372036854775807 < x3_1.size + 1) = False := eq_false (Nat.not_lt.2 c54)
          obtain rfl := Option.some.inj H
          obtain ⟨hcz55_0, hcz55_1, hcz55_2, hcz55_3, hfz55_0, hfz55_1, hfz55_2, hfz55_3⟩ := YA BK101.out
          go_wp2
          go_ret
          exact Z2r
         ·rw [if_neg c54] at H
          exact Zn
     ·rw [if_neg c38] at H
      have c38b0 : (a0_0 == 8) = false := beq_eq_false_iff_ne.mpr c38
      have c38b1 : (a0_0 != 8) = true := bne_iff_ne.mpr c38
      by_cases c56 : 0 < (l0_3.length : Int)
      ·rw [if_pos c56] at H
       have c56b0 : decide (0 < (l0_3.length : Int)) = true := decide_eq_true c56
       have c56b1 : decide (0 < l0_3.length) = true := decide_eq_true (by omega)
       clear c56
       replace H := Option.bind_eq_some_iff.mp H
       obtain ⟨t115, A570, H⟩ := H
       replace H : ((Y1c.f a0_0).bind fun t116 => (if t115.size + t116.size ≤ 9223372036854775807 then (some (t115 ++ t116)) else (none))) = some r := H
       have A57 := Y0.mk A570
       clear A570
       replace H := Option.bind_eq_some_iff.mp H
       obtain ⟨t116, A580, H⟩ := H
       replace H : (if t115.size + t116.size ≤ 9223372036854775807 then (some (t115 ++ t116)) else (none)) = some r := H
       have A58 := Y0.mk A580
       clear A580
       by_cases c59 : t115.size + t116.size ≤ 9223372036854775807
       ·rw [if_pos c59] at H
        have c59b0 := eq_true c59
        have c59b1 : decide (t115.size + t116.size ≤ 9223372036854775807) = true := decide_eq_true c59
        try have c59b2 : (9223372036854775807 < t115.size + t116.size) = False := eq_false (Nat.not_lt.2 c59)
        obtain rfl := Option.some.inj H
        go_enter Tryd.func29, Tryd.ntmps29
        try go_wp2_with (first | ((with_reducible refine YF (N := 1) rfl ?_); refine YD ?hg (N := 1) ?hd (cs := #[.int .i64 a0_0, .string a0_1, .slice A0_2 l0_2.length c0_2, .slice A0_3 l0_3.length c0_3]) (t := 37) ?hr ?_; (case hd => rfl); (case hg => rfl); (case hr => exact Zb); intro gb101 hg w60 hbox hb; have n_ := Y2N (Y8 QB hb) (hbox) ((by rw [hg]; exact (Yf QB) : w.heap.size ≤ gb101)) ((by rw [hg]; exact (Yf QB) : w.heap.size ≤ gb101)); clear HB; obtain ⟨HB, BK101, GW101, GE101⟩ := n_; clear hb hbox hg; obtain ⟨hcz61_0, hcz61_1, hcz61_2, hcz61_3, hfz61_0, hfz61_1, hfz61_2, hfz61_3⟩ := YA BK101.out))
        have n_ := Y2d (Yb BK101.out) (YP HB.out)
        clear BK101
        clear HB
        obtain ⟨BK101, HB⟩ := n_
        have p114 : 0 ≤ (0 : Int) := (by omega)
        have q114 : 0 < (l0_3.length : Int) := of_decide_eq_true Za
        obtain ⟨ad114, A114_2, c114_2, A114_3, c114_3, e114, hx114_0, hx114_1, hx114_2, hx114_3, hl114_2, hi114_2, hl114_3, hi114_3⟩ := Y2f HR0_3.out 0 p114 q114
        have hw114_3 := hx114_3
        (try rw [show ((0 : Int)).toNat = 0 from rfl] at hw114_3)
        (try rw [show 0 * 4 = 0 from rfl] at hw114_3)
        (try rw [Addr.add_zero'] at hw114_3)
        have hw114_2 := hx114_2
        (try rw [show ((0 : Int)).toNat = 0 from rfl] at hw114_2)
        (try rw [show 0 * 4 = 0 from rfl] at hw114_2)
        (try rw [Addr.add_zero'] at hw114_2)
        have hw114_1 := hx114_1
        (try rw [show ((0 : Int)).toNat = 0 from rfl] at hw114_1)
        (try rw [show 0 * 4 = 0 from rfl] at hw114_1)
        (try rw [Addr.add_zero'] at hw114_1)
        have hw114_0 := hx114_0
        (try rw [show ((0 : Int)).toNat = 0 from rfl] at hw114_0)
        (try rw [show 0 * 4 = 0 from rfl] at hw114_0)
        (try rw [Addr.add_zero'] at hw114_0)
        cases e114
        have qi114 : (0 < l0_3.length) = True := eq_true (by omega)
        (try rw [show ((0 : Int)).toNat = 0 from rfl] at hx114_0)
        (try rw [show 0 * 4 = 0 from rfl] at hx114_0)
        (try rw [Addr.add_zero'] at hx114_0)
        (try rw [show ((0 : Int)).toNat = 0 from rfl] at hx114_1)
        (try rw [show 0 * 4 = 0 from rfl] at hx114_1)
        (try rw [Addr.add_zero'] at hx114_1)
        (try rw [show ((0 : Int)).toNat = 0 from rfl] at hx114_2)
        (try rw [show 0 * 4 = 0 from rfl] at hx114_2)
        (try rw [Addr.add_zero'] at hx114_2)
        (try rw [show ((0 : Int)).toNat = 0 from rfl] at hx114_3)
        (try rw [show 0 * 4 = 0 from rfl] at hx114_3)
        (try rw [Addr.add_zero'] at hx114_3)
        replace hx114_0 := Y15 HB.out hx114_0
        replace hx114_1 := Y15 HB.out hx114_1
        replace hx114_2 := Y15 HB.out hx114_2
        replace hx114_3 := Y15 HB.out hx114_3
        have HR114_2 := Y0.mk hi114_2
        have HC114_2 := Y0.mk hl114_2
        clear hi114_2 hl114_2
        have HR114_3 := Y0.mk hi114_3
        have HC114_3 := Y0.mk hl114_3
        clear hi114_3 hl114_3
        replace p114 := eq_true p114
        replace q114 := eq_true q114
        refine Y1m (n := 10) (S := fun w' => w'.cell? ⟨gb101, 0, none⟩ = some (.int .i64 a0_0) ∧ w'.cell? ⟨gb101, 1, none⟩ = some (.string a0_1) ∧ w'.cell? ⟨gb101, 2, none⟩ = some (.slice A0_2 l0_2.length c0_2) ∧ w'.cell? ⟨gb101, 3, none⟩ = some (.slice (some ad114) l0_3.length c0_3) ∧ w'.cell? ad114 = some (.int .i64 ((Yc l0_3 0).f0)) ∧ w'.cell? ⟨ad114.block, ad114.off + 1, none⟩ = some (.string ((Yc l0_3 0).f1)) ∧ w'.cell? ⟨ad114.block, ad114.off + 2, none⟩ = some (.slice A114_2 ((Yc l0_3 0).f2).length c114_2) ∧ w'.cell? ⟨ad114.block, ad114.off + 3, none⟩ = some (.slice A114_3 ((Yc l0_3 0).f3).length c114_3)) (ds := []) bz10_0 Z4 rfl rfl ⟨(Y2 BK101.out 0).trans rfl, (Y2 BK101.out 1).trans rfl, (Y2 BK101.out 2).trans rfl, (Y2 BK101.out 3).trans rfl, ((HB.out.cell (World.block_lt_of_cell? w _ hw114_0)).trans hw114_0), ((HB.out.cell (World.block_lt_of_cell? w _ hw114_1)).trans hw114_1), ((HB.out.cell (World.block_lt_of_cell? w _ hw114_2)).trans hw114_2), ((HB.out.cell (World.block_lt_of_cell? w _ hw114_3)).trans hw114_3)⟩ (fun hHeld => ?_); refine Y11 Yg.tab19 Yg.bits19 (fun HT_ HW_ => ?_)
        generalize w60.drew = w62 at BK101 HB HR114_2 HR114_3 hx114_0 hx114_1 hx114_2 hx114_3 hHeld ⊢
        refine pY 0 73 bz10_1 ?_
        refine pY 5 78 bz10_21 ?_
        refine pT 1 74 bz10_23 ?_
        refine pY 2 75 bz10_27 ?_
        refine pT 3 76 bz10_2f ?_
        refine pT 6 79 bz10_6f ?_
        refine Y2Q (i := 4) (N := some 77) bz10_7f rfl rfl (Y1b HT_.out Z4) (by decide) (fun K hK => ?_)
        refine Y1Q Tryd.func58 Z4 rfl #[.agg #[.int .i64 ((Yc l0_3 0).f0), .string ((Yc l0_3 0).f1), .slice A114_2 ((Yc l0_3 0).f2).length c114_2, .slice A114_3 ((Yc l0_3 0).f3).length c114_3]] (by rfl) rfl rfl Z0 ?_
        with_reducible refine ((ih k (by omega)).2 ((Yc l0_3 0).f0) ((Yc l0_3 0).f1) _ _ ((Yc l0_3 0).f2) _ _ ((Yc l0_3 0).f3) t115 _ ?side1 ?side2 ?side3 ?side4 A57.out).mono ?_
        (case side1 => exact Z1G)
        (case side2 => exact HC114_2.out)
        (case side3 => exact Z1H)
        (case side4 => exact HC114_3.out)
        rintro e w63 ⟨rfl, hb⟩
        refine ⟨_, rfl, ?_⟩
        have n_ := Y2d (Yt (g := gb101) (o := .cells #[.int .i64 a0_0, .string a0_1, .slice A0_2 l0_2.length c0_2, .slice (some ad114) l0_3.length c0_3] 37 (0, 0)) QQ hb) (Y8 QB hb)
        clear BK101
        clear HB
        obtain ⟨BK101, HB⟩ := n_
        (try clear hb)
        (try clear hb2)
        (try clear hk)
        (try clear hi)
        refine hK.out _ _ ⟨(Y2 BK101.out 0).trans rfl, (Y2 BK101.out 1).trans rfl, (Y2 BK101.out 2).trans rfl, (Y2 BK101.out 3).trans rfl, ((HB.out.cell (World.block_lt_of_cell? w _ hw114_0)).trans hw114_0), ((HB.out.cell (World.block_lt_of_cell? w _ hw114_1)).trans hw114_1), ((HB.out.cell (World.block_lt_of_cell? w _ hw114_2)).trans hw114_2), ((HB.out.cell (World.block_lt_of_cell? w _ hw114_3)).trans hw114_3)⟩ (fun hHeld => ?_)
        clear hK K
        refine Y1A (a' := ?_) ?_ ?_
        rotate_left
        ·show Act.put _ (some 77) _ = _
         simp only [Act.put, List.setIfInBounds_toArray, List.set_cons_zero, List.set_cons_succ, Y16, Y17]
         rfl
        refine Y2Q (i := 7) (N := some 80) bz10_ff rfl rfl (Y1b HT_.out Z4) (by decide) (fun K hK => ?_)
        refine Y1Q Tryd.func59 Z4 rfl #[.int .i64 a0_0] (by rfl) rfl rfl Z0 ?_
        with_reducible refine (Y1c.calls a0_0 t116 _ A58.out).mono ?_
        rintro e w' ⟨rfl, ⟨nd, rfl⟩⟩
        refine ⟨_, rfl, ?_⟩
        refine hK.out _ _ ⟨(Y2 BK101.out 0).trans rfl, (Y2 BK101.out 1).trans rfl, (Y2 BK101.out 2).trans rfl, (Y2 BK101.out 3).trans rfl, ((HB.out.cell (World.block_lt_of_cell? w _ hw114_0)).trans hw114_0), ((HB.out.cell (World.block_lt_of_cell? w _ hw114_1)).trans hw114_1), ((HB.out.cell (World.block_lt_of_cell? w _ hw114_2)).trans hw114_2), ((HB.out.cell (World.block_lt_of_cell? w _ hw114_3)).trans hw114_3)⟩ (fun hHeld => ?_)
        clear hK K
        refine Y1A (a' := ?_) ?_ ?_
        rotate_left
        ·show Act.put _ (some 80) _ = _
         simp only [Act.put, List.setIfInBounds_toArray, List.set_cons_zero, List.set_cons_succ, Y16, Y17]
         rfl
        refine pY 8 81 bz10_1ff ?_
        refine pY 9 2 bz10_3ff ?_
        refine Y1S (Y1a HT_.out Z4) ?_
        try go_wp2
        go_ret
        exact Z2r
       ·rw [if_neg c59] at H
        exact Zn
      ·rw [if_neg c56] at H
       exact Zn
set_option maxHeartbeats 8000000 in
set_option maxRecDepth 100000 in
theorem YG.step (k : Nat) (ih : ∀ j_ < k, Yg.Spec j_ ∧ YG.Spec j_) : ∀ (a0_0 : Int) (a0_1 : ByteArray) (A0_2 : Option Addr) (c0_2 : Nat) (l0_2 : List ByteArray) (A0_3 : Option Addr) (c0_3 : Nat) (l0_3 : List (S37)) (r : ByteArray) (w : World) (hr0_2 : Kd.C Kd.string w A0_2 l0_2.length l0_2) (hc0_2 : l0_2.length ≤ c0_2) (hr0_3 : Kd.C k37 w A0_3 l0_3.length l0_3) (hc0_3 : l0_3.length ≤ c0_3) (h : YG.f k a0_0 a0_1 l0_2 l0_3 = some r),
  Calls Tryd.prog 58 #[.agg #[.int .i64 a0_0, .string a0_1, .slice A0_2 l0_2.length c0_2, .slice A0_3 l0_3.length c0_3]] w fun e w' => e = .returned (.string r) ∧ Below w.heap.size w w' := by
 intro a0_0 a0_1 A0_2 c0_2 l0_2 A0_3 c0_3 l0_3 r w hr0_2 hc0_2 hr0_3 hc0_3 h
 cases k with
 | zero => exact absurd h (by simp [YG.f])
 | succ k =>
 simp only [YG.f] at h
 have hu37 := Tryd.underlying37
 have HR0_2 := Y0.mk hr0_2
 have HC0_2 := Y0.mk hc0_2
 clear hr0_2 hc0_2
 have HR0_3 := Y0.mk hr0_3
 have HC0_3 := Y0.mk hc0_3
 clear hr0_3 hc0_3
 have HB := Y0.mk (Below.refl w.heap.size w)
 have H : (if a0_0 = 1 then ((Yg.f k a0_0 a0_1 l0_2 l0_3).bind fun t118 => (some t118)) else ((Yg.f k a0_0 a0_1 l0_2 l0_3).bind fun t119 => (if 1 + t119.size ≤ 9223372036854775807 then (if 1 + t119.size + 1 ≤ 9223372036854775807 then (some (((⟨#[40]⟩ : ByteArray) ++ t119) ++ (⟨#[41]⟩ : ByteArray))) else (none)) else (none)))) = some r := h
 clear h
 by_cases c2 : a0_0 = 1
 ·rw [if_pos c2] at H
  have c2b0 : (a0_0 == 1) = true := beq_iff_eq.mpr c2
  have c2b1 : (a0_0 != 1) = false := bne_eq_false_iff_eq.mpr c2
  clear c2
  replace H := Option.bind_eq_some_iff.mp H
  obtain ⟨t118, A30, H⟩ := H
  replace H : (some t118) = some r := H
  have A3 := Y0.mk A30
  clear A30
  obtain rfl := Option.some.inj H
  go_enter Tryd.func58, Tryd.ntmps58
  go_wp2_with (first | ((with_reducible refine YF (N := 1) rfl ?_); refine YD ?hg (N := 1) ?hd (cs := #[.int .i64 a0_0, .string a0_1, .slice A0_2 l0_2.length c0_2, .slice A0_3 l0_3.length c0_3]) (t := 37) ?hr ?_; (case hd => rfl); (case hg => rfl); (case hr => exact Zb); intro gb117 hg w4 hbox hb; have n_ := Y2N (Y8 QB hb) (hbox) ((by rw [hg]; exact (Yf QB) : w.heap.size ≤ gb117)) ((by rw [hg]; exact (Yf QB) : w.heap.size ≤ gb117)); clear HB; obtain ⟨HB, BK117, GW117, GE117⟩ := n_; clear hb hbox hg; obtain ⟨hcz5_0, hcz5_1, hcz5_2, hcz5_3, hfz5_0, hfz5_1, hfz5_2, hfz5_3⟩ := YA BK117.out) | ((with_reducible refine Yl (f := 29) rfl ?_); refine YO (some 7) rfl rfl Tryd.func29 Z4 rfl #[.agg #[.int .i64 a0_0, .string a0_1, .slice A0_2 l0_2.length c0_2, .slice A0_3 l0_3.length c0_3]] rfl Z0 ?_; (with_reducible refine ((ih k (by omega)).1 a0_0 a0_1 _ _ l0_2 _ _ l0_3 t118 _ ?side1 ?side2 ?side3 ?side4 A3.out).mono ?_); (case side1 => exact Zc); (case side2 => exact Z1P); (case side3 => exact Zd); (case side4 => exact Z24); rintro e w6 ⟨rfl, hb⟩; refine ⟨_, rfl, ?_⟩; have n_ := Y2d (Yt (g := gb117) (o := .cells #[.int .i64 a0_0, .string a0_1, .slice A0_2 l0_2.length c0_2, .slice A0_3 l0_3.length c0_3] 37 (0, 0)) QQ hb) (Y8 QB hb); clear BK117 HB; obtain ⟨BK117, HB⟩ := n_; (try clear hb); (try clear hb2); (try clear hk); (try clear hi)))
  go_ret
  exact Z2r
 ·rw [if_neg c2] at H
  have c2b0 : (a0_0 == 1) = false := beq_eq_false_iff_ne.mpr c2
  have c2b1 : (a0_0 != 1) = true := bne_iff_ne.mpr c2
  replace H := Option.bind_eq_some_iff.mp H
  obtain ⟨t119, A70, H⟩ := H
  replace H : (if 1 + t119.size ≤ 9223372036854775807 then (if 1 + t119.size + 1 ≤ 9223372036854775807 then (some (((⟨#[40]⟩ : ByteArray) ++ t119) ++ (⟨#[41]⟩ : ByteArray))) else (none)) else (none)) = some r := H
  have A7 := Y0.mk A70
  clear A70
  by_cases c8 : 1 + t119.size ≤ 9223372036854775807
  ·rw [if_pos c8] at H
   have c8b0 := eq_true c8
   have c8b1 : decide (1 + t119.size ≤ 9223372036854775807) = true := decide_eq_true c8
   try have c8b2 : (9223372036854775807 < 1 + t119.size) = False := eq_false (Nat.not_lt.2 c8)
   by_cases c9 : 1 + t119.size + 1 ≤ 9223372036854775807
   ·rw [if_pos c9] at H
    have c9b0 := eq_true c9
    have c9b1 : decide (1 + t119.size + 1 ≤ 9223372036854775807) = true := decide_eq_true c9
    try have c9b2 : (9223372036854775807 < 1 + t119.size + 1) = False := eq_false (Nat.not_lt.2 c9)
    obtain rfl := Option.some.inj H
    go_enter Tryd.func58, Tryd.ntmps58
    go_wp2_with (first | ((with_reducible refine YF (N := 1) rfl ?_); refine YD ?hg (N := 1) ?hd (cs := #[.int .i64 a0_0, .string a0_1, .slice A0_2 l0_2.length c0_2, .slice A0_3 l0_3.length c0_3]) (t := 37) ?hr ?_; (case hd => rfl); (case hg => rfl); (case hr => exact Zb); intro gb117 hg w10 hbox hb; have n_ := Y2N (Y8 QB hb) (hbox) ((by rw [hg]; exact (Yf QB) : w.heap.size ≤ gb117)) ((by rw [hg]; exact (Yf QB) : w.heap.size ≤ gb117)); clear HB; obtain ⟨HB, BK117, GW117, GE117⟩ := n_; clear hb hbox hg; obtain ⟨hcz11_0, hcz11_1, hcz11_2, hcz11_3, hfz11_0, hfz11_1, hfz11_2, hfz11_3⟩ := YA BK117.out) | ((with_reducible refine Yl (f := 29) rfl ?_); refine YO (some 9) rfl rfl Tryd.func29 Z4 rfl #[.agg #[.int .i64 a0_0, .string a0_1, .slice A0_2 l0_2.length c0_2, .slice A0_3 l0_3.length c0_3]] rfl Z0 ?_; (with_reducible refine ((ih k (by omega)).1 a0_0 a0_1 _ _ l0_2 _ _ l0_3 t119 _ ?side1 ?side2 ?side3 ?side4 A7.out).mono ?_); (case side1 => exact Zc); (case side2 => exact Z1P); (case side3 => exact Zd); (case side4 => exact Z24); rintro e w12 ⟨rfl, hb⟩; refine ⟨_, rfl, ?_⟩; have n_ := Y2d (Yt (g := gb117) (o := .cells #[.int .i64 a0_0, .string a0_1, .slice A0_2 l0_2.length c0_2, .slice A0_3 l0_3.length c0_3] 37 (0, 0)) QQ hb) (Y8 QB hb); clear BK117 HB; obtain ⟨BK117, HB⟩ := n_; (try clear hb); (try clear hb2); (try clear hk); (try clear hi)))
    go_ret
    exact Z2r
   ·rw [if_neg c9] at H
    exact Zn
  ·rw [if_neg c8] at H
   exact Zn
theorem Yg.joint : ∀ k, Yg.Spec k ∧ YG.Spec k := by
 intro k
 induction k using Nat.strongRecOn with
 | _ k ih => exact ⟨Yg.step k ih, YG.step k ih⟩
theorem Yg.calls (k : Nat) : Yg.Spec k := (Yg.joint k).1
def triviumlaw12_QueryCut.j0 : Nat → Int → ByteArray → Bool → Int → ByteArray → List ByteArray → List (S37) → Option (Bool)
 | 0, _, _, _, _, _, _, _ => none
 | k + 1, x1, x2, x26, x102000, x102001, x102002, x102003 => if x26 = true then (some true) else ((Yg.f k x102000 x102001 x102002 x102003).bind fun t104 => (if (wrap64 ((t104.size : Int) + 1)) = 0 then (none) else (if 0 ≤ (Int.tmod (Go.bits .and .i64 x1 1023) (wrap64 ((t104.size : Int) + 1))) then (if (Int.tmod (Go.bits .and .i64 x1 1023) (wrap64 ((t104.size : Int) + 1))) ≤ (t104.size : Int) then (if (Int.tmod (Go.bits .and .i64 x1 1023) (wrap64 ((t104.size : Int) + 1))).toNat + x2.size ≤ 9223372036854775807 then ((YI.f k ((t104.extract 0 ((Int.tmod (Go.bits .and .i64 x1 1023) (wrap64 ((t104.size : Int) + 1))) : Int).toNat) ++ x2)).bind fun bt105 => ((YB.f k ((t104.extract 0 ((Int.tmod (Go.bits .and .i64 x1 1023) (wrap64 ((t104.size : Int) + 1))) : Int).toNat) ++ x2)).bind fun bt116 => (if bt105.2.2.2.2.1 = bt116.2.2.2.2.1 then (if bt105.2.2.2.2.2 = bt116.2.2.2.2.2 then ((YV.f k).bind fun t127 => (some t127)) else (some false)) else (some false)))) else (none)) else (none)) else (none))))
def triviumlaw12_QueryCut.f (k : Nat) (a0_0 : Int) (a0_1 : ByteArray) (l0_2 : List ByteArray) (l0_3 : List (S37)) (a1 : Int) (a2 : ByteArray) : Option (Bool) := (Yv.f k a0_0 a0_1 l0_2 l0_3 0).bind fun t102 => (if t102 = true then (triviumlaw12_QueryCut.j0 k a1 a2 true a0_0 a0_1 l0_2 l0_3) else ((Y19.f k a0_0 a0_1 l0_2 l0_3).bind fun t103 => (if t103 = true then (triviumlaw12_QueryCut.j0 k a1 a2 (decide ((a2.size : Int) > 20)) a0_0 a0_1 l0_2 l0_3) else (triviumlaw12_QueryCut.j0 k a1 a2 true a0_0 a0_1 l0_2 l0_3))))
set_option maxHeartbeats 8000000 in
set_option maxRecDepth 100000 in
theorem triviumlaw12_QueryCut.calls (k : Nat) (a0_0 : Int) (a0_1 : ByteArray) (A0_2 : Option Addr) (c0_2 : Nat) (l0_2 : List ByteArray) (A0_3 : Option Addr) (c0_3 : Nat) (l0_3 : List (S37)) (a1 : Int) (a2 : ByteArray) (r : Bool) (w : World) (hT : Tabs w) (hr0_2 : Kd.C Kd.string w A0_2 l0_2.length l0_2) (hc0_2 : l0_2.length ≤ c0_2) (hr0_3 : Kd.C k37 w A0_3 l0_3.length l0_3) (hc0_3 : l0_3.length ≤ c0_3) (h : triviumlaw12_QueryCut.f k a0_0 a0_1 l0_2 l0_3 a1 a2 = some r) :
  Calls Tryd.prog 9 #[.agg #[.int .i64 a0_0, .string a0_1, .slice A0_2 l0_2.length c0_2, .slice A0_3 l0_3.length c0_3], .int .i64 a1, .string a2] w fun e w' => e = .returned (.bool r) ∧ Below w.heap.size w w' := by
 have HT := Y0.mk hT
 clear hT
 have hu37 := Tryd.underlying37
 have HR0_2 := Y0.mk hr0_2
 have HC0_2 := Y0.mk hc0_2
 clear hr0_2 hc0_2
 have HR0_3 := Y0.mk hr0_3
 have HC0_3 := Y0.mk hc0_3
 clear hr0_3 hc0_3
 have HB := Y0.mk (Below.refl w.heap.size w)
 have H : ((Yv.f k a0_0 a0_1 l0_2 l0_3 0).bind fun t102 => (if t102 = true then (triviumlaw12_QueryCut.j0 k a1 a2 true a0_0 a0_1 l0_2 l0_3) else ((Y19.f k a0_0 a0_1 l0_2 l0_3).bind fun t103 => (if t103 = true then (triviumlaw12_QueryCut.j0 k a1 a2 (decide ((a2.size : Int) > 20)) a0_0 a0_1 l0_2 l0_3) else (triviumlaw12_QueryCut.j0 k a1 a2 true a0_0 a0_1 l0_2 l0_3))))) = some r := h
 clear h
 have HC4 := Y0.mk H
 clear H
 go_enter Tryd.func9, Tryd.ntmps9
 go_upto_region 1 with (first | ((with_reducible refine YF (N := 3) rfl ?_); (try (refine YW (by rfl) ?_; dsimp only)); refine YD ?hg (N := 3) ?hd (cs := #[.int .i64 a0_0, .string a0_1, .slice A0_2 l0_2.length c0_2, .slice A0_3 l0_3.length c0_3]) (t := 37) ?hr ?_; (case hd => rfl); (case hg => rfl); (case hr => exact Zb); intro gb101 hg w5 hbox hb; have n_ := Y2N (Y8 QB hb) (hbox) ((by rw [hg]; exact (Yf QB) : w.heap.size ≤ gb101)) ((by rw [hg]; exact (Yf QB) : w.heap.size ≤ gb101)); clear HB; obtain ⟨HB, BK101, GW101, GE101⟩ := n_; clear hb hbox hg))
 (try simp only [Act.put, List.setIfInBounds_toArray, List.set_cons_zero, List.set_cons_succ])
 go_cut [26] (fun v26 wc => ∃ (kq : Nat) (x26_3 : Bool), v26 = .bool x26_3 ∧ Y0 (triviumlaw12_QueryCut.j0 kq a1 a2 x26_3 a0_0 a0_1 l0_2 l0_3 = some r) ∧ Y0 (kq ≤ k) ∧ Y0 (wc.heap[gb101]? = some (.cells #[.int .i64 a0_0, .string a0_1, (.slice A0_2 l0_2.length c0_2), (.slice A0_3 l0_3.length c0_3)] 37 (0, 0))) ∧ Y0 (Below w.heap.size w wc))
 case first =>
  have H := HC4.out
  clear HC4
  replace H := Option.bind_eq_some_iff.mp H
  obtain ⟨t102, A60, H⟩ := H
  replace H : (if t102 = true then (triviumlaw12_QueryCut.j0 k a1 a2 true a0_0 a0_1 l0_2 l0_3) else ((Y19.f k a0_0 a0_1 l0_2 l0_3).bind fun t103 => (if t103 = true then (triviumlaw12_QueryCut.j0 k a1 a2 (decide ((a2.size : Int) > 20)) a0_0 a0_1 l0_2 l0_3) else (triviumlaw12_QueryCut.j0 k a1 a2 true a0_0 a0_1 l0_2 l0_3)))) = some r := H
  have A6 := Y0.mk A60
  clear A60
  by_cases c7 : t102 = true
  ·subst c7
   have H1 : (triviumlaw12_QueryCut.j0 k a1 a2 true a0_0 a0_1 l0_2 l0_3) = some r := by rw [if_pos rfl] at H; exact H
   clear H
   have H := H1
   clear H1
   have H' := Y0.mk H
   clear H
   obtain ⟨hcz8_0, hcz8_1, hcz8_2, hcz8_3, hfz8_0, hfz8_1, hfz8_2, hfz8_3⟩ := YA BK101.out
   go_wp2_with (first | ((with_reducible refine Yl (f := 22) rfl ?_); refine YO (some 16) rfl rfl Tryd.func22 Z4 rfl #[.agg #[.int .i64 a0_0, .string a0_1, .slice A0_2 l0_2.length c0_2, .slice A0_3 l0_3.length c0_3], .int .i64 0] rfl Z0 ?_; (with_reducible refine (Yv.calls k a0_0 a0_1 _ _ l0_2 _ _ l0_3 0 true _ ?side1 ?side2 ?side3 ?side4 A6.out).mono ?_); (case side1 => exact Zc); (case side2 => exact Z1P); (case side3 => exact Zd); (case side4 => exact Z24); rintro e w9 ⟨rfl, hb⟩; refine ⟨_, rfl, ?_⟩; have n_ := Y2d (Yt (g := gb101) (o := .cells #[.int .i64 a0_0, .string a0_1, .slice A0_2 l0_2.length c0_2, .slice A0_3 l0_3.length c0_3] 37 (0, 0)) QQ hb) (Y8 QB hb); clear BK101 HB; obtain ⟨BK101, HB⟩ := n_; (try clear hb); (try clear hb2); (try clear hk); (try clear hi)))
   go_meet
   case rel => exact Z2s
  ·replace c7 := Bool.eq_false_iff.mpr c7
   subst c7
   have H1 : ((Y19.f k a0_0 a0_1 l0_2 l0_3).bind fun t103 => (if t103 = true then (triviumlaw12_QueryCut.j0 k a1 a2 (decide ((a2.size : Int) > 20)) a0_0 a0_1 l0_2 l0_3) else (triviumlaw12_QueryCut.j0 k a1 a2 true a0_0 a0_1 l0_2 l0_3))) = some r := by rw [if_neg (show ¬ (false = true) by decide)] at H; exact H
   clear H
   have H := H1
   clear H1
   replace H := Option.bind_eq_some_iff.mp H
   obtain ⟨t103, A100, H⟩ := H
   replace H : (if t103 = true then (triviumlaw12_QueryCut.j0 k a1 a2 (decide ((a2.size : Int) > 20)) a0_0 a0_1 l0_2 l0_3) else (triviumlaw12_QueryCut.j0 k a1 a2 true a0_0 a0_1 l0_2 l0_3)) = some r := H
   have A10 := Y0.mk A100
   clear A100
   by_cases c11 : t103 = true
   ·subst c11
    have H1 : (triviumlaw12_QueryCut.j0 k a1 a2 (decide ((a2.size : Int) > 20)) a0_0 a0_1 l0_2 l0_3) = some r := by rw [if_pos rfl] at H; exact H
    clear H
    have H := H1
    clear H1
    have H' := Y0.mk H
    clear H
    obtain ⟨hcz12_0, hcz12_1, hcz12_2, hcz12_3, hfz12_0, hfz12_1, hfz12_2, hfz12_3⟩ := YA BK101.out
    go_wp2_with (first | ((with_reducible refine Yl (f := 22) rfl ?_); refine YO (some 16) rfl rfl Tryd.func22 Z4 rfl #[.agg #[.int .i64 a0_0, .string a0_1, .slice A0_2 l0_2.length c0_2, .slice A0_3 l0_3.length c0_3], .int .i64 0] rfl Z0 ?_; (with_reducible refine (Yv.calls k a0_0 a0_1 _ _ l0_2 _ _ l0_3 0 false _ ?side1 ?side2 ?side3 ?side4 A6.out).mono ?_); (case side1 => exact Zc); (case side2 => exact Z1P); (case side3 => exact Zd); (case side4 => exact Z24); rintro e w13 ⟨rfl, hb⟩; refine ⟨_, rfl, ?_⟩; have n_ := Y2d (Yt (g := gb101) (o := .cells #[.int .i64 a0_0, .string a0_1, .slice A0_2 l0_2.length c0_2, .slice A0_3 l0_3.length c0_3] 37 (0, 0)) QQ hb) (Y8 QB hb); clear BK101 HB; obtain ⟨BK101, HB⟩ := n_; (try clear hb); (try clear hb2); (try clear hk); (try clear hi); obtain ⟨hcz14_0, hcz14_1, hcz14_2, hcz14_3, hfz14_0, hfz14_1, hfz14_2, hfz14_3⟩ := YA BK101.out) | (go_at_call 23; (with_reducible refine (Y19.calls k a0_0 a0_1 _ _ l0_2 _ _ l0_3 true _ ?side1 ?side2 ?side3 ?side4 ?side5 A10.out).mono ?_); (case side1 => exact Z3); (case side2 => exact Zc); (case side3 => exact Z1P); (case side4 => exact Zd); (case side5 => exact Z24); rintro e w15 ⟨rfl, hb⟩; have n_ := Y2d (Yt (g := gb101) (o := .cells #[.int .i64 a0_0, .string a0_1, .slice A0_2 l0_2.length c0_2, .slice A0_3 l0_3.length c0_3] 37 (0, 0)) QQ hb) (Y8 QB hb); clear BK101 HB; obtain ⟨BK101, HB⟩ := n_; (try clear hb); (try clear hb2); (try clear hk); (try clear hi)))
    go_meet
    case rel => exact ⟨_, (decide ((a2.size : Int) > 20)), Z8, H', ⟨Zr⟩, ⟨Z6⟩, ⟨QB⟩⟩
   ·replace c11 := Bool.eq_false_iff.mpr c11
    subst c11
    have H1 : (triviumlaw12_QueryCut.j0 k a1 a2 true a0_0 a0_1 l0_2 l0_3) = some r := by rw [if_neg (show ¬ (false = true) by decide)] at H; exact H
    clear H
    have H := H1
    clear H1
    have H' := Y0.mk H
    clear H
    obtain ⟨hcz16_0, hcz16_1, hcz16_2, hcz16_3, hfz16_0, hfz16_1, hfz16_2, hfz16_3⟩ := YA BK101.out
    go_wp2_with (first | ((with_reducible refine Yl (f := 22) rfl ?_); refine YO (some 16) rfl rfl Tryd.func22 Z4 rfl #[.agg #[.int .i64 a0_0, .string a0_1, .slice A0_2 l0_2.length c0_2, .slice A0_3 l0_3.length c0_3], .int .i64 0] rfl Z0 ?_; (with_reducible refine (Yv.calls k a0_0 a0_1 _ _ l0_2 _ _ l0_3 0 false _ ?side1 ?side2 ?side3 ?side4 A6.out).mono ?_); (case side1 => exact Zc); (case side2 => exact Z1P); (case side3 => exact Zd); (case side4 => exact Z24); rintro e w17 ⟨rfl, hb⟩; refine ⟨_, rfl, ?_⟩; have n_ := Y2d (Yt (g := gb101) (o := .cells #[.int .i64 a0_0, .string a0_1, .slice A0_2 l0_2.length c0_2, .slice A0_3 l0_3.length c0_3] 37 (0, 0)) QQ hb) (Y8 QB hb); clear BK101 HB; obtain ⟨BK101, HB⟩ := n_; (try clear hb); (try clear hb2); (try clear hk); (try clear hi); obtain ⟨hcz18_0, hcz18_1, hcz18_2, hcz18_3, hfz18_0, hfz18_1, hfz18_2, hfz18_3⟩ := YA BK101.out) | (go_at_call 23; (with_reducible refine (Y19.calls k a0_0 a0_1 _ _ l0_2 _ _ l0_3 false _ ?side1 ?side2 ?side3 ?side4 ?side5 A10.out).mono ?_); (case side1 => exact Z3); (case side2 => exact Zc); (case side3 => exact Z1P); (case side4 => exact Zd); (case side5 => exact Z24); rintro e w19 ⟨rfl, hb⟩; have n_ := Y2d (Yt (g := gb101) (o := .cells #[.int .i64 a0_0, .string a0_1, .slice A0_2 l0_2.length c0_2, .slice A0_3 l0_3.length c0_3] 37 (0, 0)) QQ hb) (Y8 QB hb); clear BK101 HB; obtain ⟨BK101, HB⟩ := n_; (try clear hb); (try clear hb2); (try clear hk); (try clear hi)))
    go_meet
    case rel => exact Z2s
 case rest =>
  clear HC4
  try clear c1
  try clear c2
  try clear p2
  try clear c7
  try clear c9
  try clear c11
  try clear hcz12_0 hcz12_1 hcz12_2 hcz12_3
  try clear hcz14_0 hcz14_1 hcz14_2 hcz14_3
  try clear hcz16_0 hcz16_1 hcz16_2 hcz16_3
  try clear hcz18_0 hcz18_1 hcz18_2 hcz18_3
  try clear hcz8_0 hcz8_1 hcz8_2 hcz8_3
  try clear hfz12_0
  try clear hfz12_1
  try clear hfz12_2
  try clear hfz12_3
  try clear hfz14_0
  try clear hfz14_1
  try clear hfz14_2
  try clear hfz14_3
  try clear hfz16_0
  try clear hfz16_1
  try clear hfz16_2
  try clear hfz16_3
  try clear hfz18_0
  try clear hfz18_1
  try clear hfz18_2
  try clear hfz18_3
  try clear hfz8_0
  try clear hfz8_1
  try clear hfz8_2
  try clear hfz8_3
  obtain ⟨kq, x26_3, rfl, HA, HJ3, BK101, HB⟩ := hcut
  cases kq with
  | zero => exact absurd HA.out (by simp [triviumlaw12_QueryCut.j0])
  | succ kj3 =>
   have H := HA.out
   clear HA
   simp only [triviumlaw12_QueryCut.j0] at H
   by_cases c20 : x26_3 = true
   ·subst c20
    have H1 : (some true) = some r := by rw [if_pos rfl] at H; exact H
    clear H
    have H := H1
    clear H1
    obtain rfl := Option.some.inj H
    go_wp2
    go_ret
    exact Z2r
   ·replace c20 := Bool.eq_false_iff.mpr c20
    subst c20
    have H1 : ((Yg.f kj3 a0_0 a0_1 l0_2 l0_3).bind fun t104 => (if (wrap64 ((t104.size : Int) + 1)) = 0 then (none) else (if 0 ≤ (Int.tmod (Go.bits .and .i64 a1 1023) (wrap64 ((t104.size : Int) + 1))) then (if (Int.tmod (Go.bits .and .i64 a1 1023) (wrap64 ((t104.size : Int) + 1))) ≤ (t104.size : Int) then (if (Int.tmod (Go.bits .and .i64 a1 1023) (wrap64 ((t104.size : Int) + 1))).toNat + a2.size ≤ 9223372036854775807 then ((YI.f kj3 ((t104.extract 0 ((Int.tmod (Go.bits .and .i64 a1 1023) (wrap64 ((t104.size : Int) + 1))) : Int).toNat) ++ a2)).bind fun bt105 => ((YB.f kj3 ((t104.extract 0 ((Int.tmod (Go.bits .and .i64 a1 1023) (wrap64 ((t104.size : Int) + 1))) : Int).toNat) ++ a2)).bind fun bt116 => (if bt105.2.2.2.2.1 = bt116.2.2.2.2.1 then (if bt105.2.2.2.2.2 = bt116.2.2.2.2.2 then ((YV.f kj3).bind fun t127 => (some t127)) else (some false)) else (some false)))) else (none)) else (none)) else (none)))) = some r := by rw [if_neg (show ¬ (false = true) by decide)] at H; exact H
    clear H
    have H := H1
    clear H1
    replace H := Option.bind_eq_some_iff.mp H
    obtain ⟨t104, A210, H⟩ := H
    replace H : (if (wrap64 ((t104.size : Int) + 1)) = 0 then (none) else (if 0 ≤ (Int.tmod (Go.bits .and .i64 a1 1023) (wrap64 ((t104.size : Int) + 1))) then (if (Int.tmod (Go.bits .and .i64 a1 1023) (wrap64 ((t104.size : Int) + 1))) ≤ (t104.size : Int) then (if (Int.tmod (Go.bits .and .i64 a1 1023) (wrap64 ((t104.size : Int) + 1))).toNat + a2.size ≤ 9223372036854775807 then ((YI.f kj3 ((t104.extract 0 ((Int.tmod (Go.bits .and .i64 a1 1023) (wrap64 ((t104.size : Int) + 1))) : Int).toNat) ++ a2)).bind fun bt105 => ((YB.f kj3 ((t104.extract 0 ((Int.tmod (Go.bits .and .i64 a1 1023) (wrap64 ((t104.size : Int) + 1))) : Int).toNat) ++ a2)).bind fun bt116 => (if bt105.2.2.2.2.1 = bt116.2.2.2.2.1 then (if bt105.2.2.2.2.2 = bt116.2.2.2.2.2 then ((YV.f kj3).bind fun t127 => (some t127)) else (some false)) else (some false)))) else (none)) else (none)) else (none))) = some r := H
    have A21 := Y0.mk A210
    clear A210
    by_cases c22 : (wrap64 ((t104.size : Int) + 1)) = 0
    ·rw [if_pos c22] at H
     exact Zn
    ·rw [if_neg c22] at H
     have c22b0 : ((wrap64 ((t104.size : Int) + 1)) == 0) = false := beq_eq_false_iff_ne.mpr c22
     have c22b1 : ((wrap64 ((t104.size : Int) + 1)) != 0) = true := bne_iff_ne.mpr c22
     obtain ⟨ji23, hji23⟩ : ∃ j_ : Int, (Int.tmod (Go.bits .and .i64 a1 1023) (wrap64 ((t104.size : Int) + 1))) = j_ := ⟨_, rfl⟩
     replace H : (if 0 ≤ (ji23) then (if (ji23) ≤ (t104.size : Int) then (if (ji23).toNat + a2.size ≤ 9223372036854775807 then ((YI.f kj3 ((t104.extract 0 ((ji23) : Int).toNat) ++ a2)).bind fun bt105 => ((YB.f kj3 ((t104.extract 0 ((ji23) : Int).toNat) ++ a2)).bind fun bt116 => (if bt105.2.2.2.2.1 = bt116.2.2.2.2.1 then (if bt105.2.2.2.2.2 = bt116.2.2.2.2.2 then ((YV.f kj3).bind fun t127 => (some t127)) else (some false)) else (some false)))) else (none)) else (none)) else (none)) = some r := by first | (rw [hji23] at H; exact H) | (simp only [hji23] at H ⊢; exact H)
     (try rw [hji23] at A21)
     by_cases c24 : 0 ≤ (ji23)
     ·rw [if_pos c24] at H
      have c24b0 := eq_true c24
      have c24b1 : decide (0 ≤ (ji23)) = true := decide_eq_true c24
      clear c24
      by_cases c25 : (ji23) ≤ (t104.size : Int)
      ·rw [if_pos c25] at H
       have c25b0 := eq_true c25
       have c25b1 : decide ((ji23) ≤ (t104.size : Int)) = true := decide_eq_true c25
       clear c25
       by_cases c26 : (ji23).toNat + a2.size ≤ 9223372036854775807
       ·rw [if_pos c26] at H
        have c26b0 := eq_true c26
        have c26b1 : decide ((ji23).toNat + a2.size ≤ 9223372036854775807) = true := decide_eq_true c26
        try have c26b2 : (9223372036854775807 < (ji23).toNat + a2.size) = False := eq_false (Nat.not_lt.2 c26)
        replace H := Option.bind_eq_some_iff.mp H
        obtain ⟨⟨t105, t106, t107, t110, t113, t114⟩, A270, H⟩ := H
        replace H : ((YB.f kj3 ((t104.extract 0 ((ji23) : Int).toNat) ++ a2)).bind fun bt116 => (if t113 = bt116.2.2.2.2.1 then (if t114 = bt116.2.2.2.2.2 then ((YV.f kj3).bind fun t127 => (some t127)) else (some false)) else (some false))) = some r := H
        have A27 := Y0.mk A270
        clear A270
        replace H := Option.bind_eq_some_iff.mp H
        obtain ⟨⟨t116, t117, t118, t121, t124, t125⟩, A280, H⟩ := H
        replace H : (if t113 = t124 then (if t114 = t125 then ((YV.f kj3).bind fun t127 => (some t127)) else (some false)) else (some false)) = some r := H
        have A28 := Y0.mk A280
        clear A280
        by_cases c29 : t113 = t124
        ·rw [if_pos c29] at H
         have c29b0 : (t113 == t124) = true := beq_iff_eq.mpr c29
         have c29b1 : (t113 != t124) = false := bne_eq_false_iff_eq.mpr c29
         clear c29
         by_cases c30 : t114 = t125
         ·rw [if_pos c30] at H
          have c30b0 : (t114 == t125) = true := beq_iff_eq.mpr c30
          have c30b1 : (t114 != t125) = false := bne_eq_false_iff_eq.mpr c30
          clear c30
          replace H := Option.bind_eq_some_iff.mp H
          obtain ⟨t127, A310, H⟩ := H
          replace H : (some t127) = some r := H
          have A31 := Y0.mk A310
          clear A310
          obtain rfl := Option.some.inj H
          obtain ⟨hcz32_0, hcz32_1, hcz32_2, hcz32_3, hfz32_0, hfz32_1, hfz32_2, hfz32_3⟩ := YA BK101.out
          go_wp2_with (first | ((with_reducible refine Yl (f := 29) rfl ?_); refine YO (some 28) rfl rfl Tryd.func29 Z4 rfl #[.agg #[.int .i64 a0_0, .string a0_1, .slice A0_2 l0_2.length c0_2, .slice A0_3 l0_3.length c0_3]] rfl Z0 ?_; (with_reducible refine (Yg.calls kj3 a0_0 a0_1 _ _ l0_2 _ _ l0_3 t104 _ ?side1 ?side2 ?side3 ?side4 A21.out).mono ?_); (case side1 => exact Zc); (case side2 => exact Z1P); (case side3 => exact Zd); (case side4 => exact Z24); rintro e w33 ⟨rfl, hb⟩; refine ⟨_, rfl, ?_⟩; have n_ := Y2d (Yt (g := gb101) (o := .cells #[.int .i64 a0_0, .string a0_1, .slice A0_2 l0_2.length c0_2, .slice A0_3 l0_3.length c0_3] 37 (0, 0)) QQ hb) (Y8 QB hb); clear BK101 HB; obtain ⟨BK101, HB⟩ := n_; (try clear hb); (try clear hb2); (try clear hk); (try clear hi)) | ((with_reducible refine Yl (f := 25) rfl ?_); refine YO (some 41) rfl rfl Tryd.func25 Z4 rfl #[.string ((t104.extract 0 ((ji23) : Int).toNat) ++ a2)] rfl ZC ?_; (with_reducible refine (YI.calls kj3 ((t104.extract 0 ((ji23) : Int).toNat) ++ a2) t105 t106 t107 t110 t113 t114 _ ?side1 A27.out).mono ?_); (case side1 => exact Z3); rintro e w34 ⟨v108, v111, rfl, ho0, ho1, hb⟩; refine ⟨_, rfl, ?_⟩; have n_ := Y2N (Kd.R_lower (Kd.R_mono (ok' := fun k_ => True) ho0 (fun _ hk_ => trivial)) (Yf QB)) (Kd.N_lower (Kd.N_mono (ok' := fun k_ => some k_ ≠ (v108 : Value).ownBlock ∧ k_ ≠ gb101) ho1 (fun k_ hk_ => ⟨hk_.2, (Kd.freshB (g := gb101) (o := .cells #[.int .i64 a0_0, .string a0_1, .slice A0_2 l0_2.length c0_2, .slice A0_3 l0_3.length c0_3] 37 (0, 0)) QQ k_ hk_.1)⟩)) (Yf QB)) (Yt (g := gb101) (o := .cells #[.int .i64 a0_0, .string a0_1, .slice A0_2 l0_2.length c0_2, .slice A0_3 l0_3.length c0_3] 37 (0, 0)) QQ hb) (Y8 QB hb); clear BK101 HB; obtain ⟨HO109, HO112, BK101, HB⟩ := n_; (try clear hb); (try clear hb2); (try clear hk); (try clear hi); (try clear ho0); (try clear ho1)) | ((with_reducible refine YF (N := 9) rfl ?_); (try (refine YW (by rfl) ?_; dsimp only)); refine YD ?hg (N := 9) ?hd (cs := #[.int .i64 0, .string (⟨#[]⟩ : ByteArray), .slice none 0 0, .slice none 0 0]) (t := 37) ?hr ?_; (case hd => rfl); (case hg => rfl); (case hr => exact Zb); intro gb115 hg w35 hbox hb; have n_ := put9 (Kd.R_below ZT hb) (Kd.N_below (Kd.N_elderB ZR gb115 (Nat.le_of_eq hg.symm)) hb) (Yt (g := gb101) (o := .cells #[.int .i64 a0_0, .string a0_1, .slice A0_2 l0_2.length c0_2, .slice A0_3 l0_3.length c0_3] 37 (0, 0)) QQ hb) (Y8 QB hb) (hbox) ((by rw [hg]; exact (Yf QB) : w.heap.size ≤ gb115)) ((by rw [hg]; exact (Yf QB) : w.heap.size ≤ gb115)) ((by rw [hg]; exact Nat.ne_of_lt (Y14 (g := gb101) (o := .cells #[.int .i64 a0_0, .string a0_1, .slice A0_2 l0_2.length c0_2, .slice A0_3 l0_3.length c0_3] 37 (0, 0)) QQ) : gb101 ≠ gb115)) ((by rw [hg]; exact Nat.ne_of_gt (Y14 (g := gb101) (o := .cells #[.int .i64 a0_0, .string a0_1, .slice A0_2 l0_2.length c0_2, .slice A0_3 l0_3.length c0_3] 37 (0, 0)) QQ) : gb115 ≠ gb101)); clear HO109 HO112 BK101 HB; obtain ⟨HO109, HO112, BK101, HB, BK115, GW115, GE115, NB101_115, NB115_101⟩ := n_; clear hb hbox hg; have hnb36 := NB115_101.out; have hnc36 := NB101_115.out; obtain ⟨hcz37_0, hcz37_1, hcz37_2, hcz37_3, hfz37_0, hfz37_1, hfz37_2, hfz37_3⟩ := YA BK115.out; obtain ⟨Ao38, co38, eo38⟩ := Kd.R_slice HO109.out; subst eo38; obtain ⟨Ao39, co39, eo39⟩ := Kd.N_slice HO112.out; subst eo39) | ((with_reducible refine Yl (f := 26) rfl ?_); refine YO (some 47) rfl rfl Tryd.func26 Z4 rfl #[.string ((t104.extract 0 ((ji23) : Int).toNat) ++ a2)] rfl ZC ?_; (with_reducible refine (YB.calls kj3 ((t104.extract 0 ((ji23) : Int).toNat) ++ a2) t116 t117 t118 t121 t124 t125 _ ?side1 A28.out).mono ?_); (case side1 => exact Z3); rintro e w40 ⟨v119, v122, rfl, ho0, ho1, hb⟩; refine ⟨_, rfl, ?_⟩; have n0_ := Y0.mk (Kd.R_elder' Zx (Kd.R_base ho0) hb); have n1_ := Y0.mk (Kd.N_mono (Kd.N_told (Kd.N_told (Kd.N_old ZY hb) (Kd.R_base ho0)) (Kd.N_base ho1)) (fun _ h_ => h_.1)); have n2_ := Y0.mk (Kd.R_lower (Kd.R_new' (Kd.R_mono (ok' := fun k_ => True) ho0 (fun _ hk_ => trivial)) (Kd.R_lt Zx)) (Yf QB)); have n3_ := Y0.mk (Kd.N_lower (Kd.N_mono (ok' := fun k_ => some k_ ≠ (v119 : Value).ownBlock ∧ some k_ ≠ (.slice Ao38 t107.length co38 : Value).ownBlock ∧ some k_ ≠ (.slice Ao39 t110.length co39 : Value).ownBlock ∧ k_ ≠ gb101 ∧ k_ ≠ gb115) ho1 (fun k_ hk_ => ⟨hk_.2, (Kd.fresh' (Kd.R_lt Zx) k_ hk_.1), (Kd.fresh' (Kd.N_lt ZY) k_ hk_.1), (Kd.freshB (g := gb101) (o := .cells #[.int .i64 a0_0, .string a0_1, .slice A0_2 l0_2.length c0_2, .slice A0_3 l0_3.length c0_3] 37 (0, 0)) Z7 k_ hk_.1), (Kd.freshB (g := gb115) (o := .cells #[.int .i64 t105, .string t106, .slice Ao38 t107.length co38, .slice Ao39 t110.length co39] 37 (0, 0)) Z2D k_ hk_.1)⟩)) (Yf QB)); have n4_ := Y0.mk (Yt (g := gb101) (o := .cells #[.int .i64 a0_0, .string a0_1, .slice A0_2 l0_2.length c0_2, .slice A0_3 l0_3.length c0_3] 37 (0, 0)) Z7 hb); have n5_ := Y0.mk (Yt (g := gb115) (o := .cells #[.int .i64 t105, .string t106, .slice Ao38 t107.length co38, .slice Ao39 t110.length co39] 37 (0, 0)) Z2D hb); have n6_ := Y0.mk (Y8 QB hb); clear HO109 HO112 BK101 BK115 HB; have HO109 := n0_; have HO112 := n1_; have HO120 := n2_; have HO123 := n3_; have BK101 := n4_; have BK115 := n5_; have HB := n6_; clear n0_ n1_ n2_ n3_ n4_ n5_ n6_; (try clear hb); (try clear hb2); (try clear hk); (try clear hi); (try clear ho0); (try clear ho1)) | ((with_reducible refine YF (N := 12) rfl ?_); (try (refine YW (by rfl) ?_; dsimp only)); refine YD ?hg (N := 12) ?hd (cs := #[.int .i64 0, .string (⟨#[]⟩ : ByteArray), .slice none 0 0, .slice none 0 0]) (t := 37) ?hr ?_; (case hd => rfl); (case hg => rfl); (case hr => exact Zb); intro gb126 hg w41 hbox hb; have n0_ := Y0.mk (Kd.R_below ZT hb); have n1_ := Y0.mk (Kd.N_below (Kd.N_elderB ZR gb126 (Nat.le_of_eq hg.symm)) hb); have n2_ := Y0.mk (Kd.R_below Z1n hb); have n3_ := Y0.mk (Kd.N_below (Kd.N_elderB Z1l gb126 (Nat.le_of_eq hg.symm)) hb); have n4_ := Y0.mk (Yt (g := gb101) (o := .cells #[.int .i64 a0_0, .string a0_1, .slice A0_2 l0_2.length c0_2, .slice A0_3 l0_3.length c0_3] 37 (0, 0)) QQ hb); have n5_ := Y0.mk (Yt (g := gb115) (o := .cells #[.int .i64 t105, .string t106, .slice Ao38 t107.length co38, .slice Ao39 t110.length co39] 37 (0, 0)) QQ hb); have n6_ := Y0.mk (Y8 QB hb); have n7_ := Y0.mk (hbox); have n8_ := Y0.mk ((by rw [hg]; exact (Yf QB) : w.heap.size ≤ gb126)); have n9_ := Y0.mk ((by rw [hg]; exact (Yf QB) : w.heap.size ≤ gb126)); have n10_ := Y0.mk ((by rw [hg]; exact Nat.ne_of_lt (Y14 (g := gb101) (o := .cells #[.int .i64 a0_0, .string a0_1, .slice A0_2 l0_2.length c0_2, .slice A0_3 l0_3.length c0_3] 37 (0, 0)) QQ) : gb101 ≠ gb126)); have n11_ := Y0.mk ((by rw [hg]; exact Nat.ne_of_gt (Y14 (g := gb101) (o := .cells #[.int .i64 a0_0, .string a0_1, .slice A0_2 l0_2.length c0_2, .slice A0_3 l0_3.length c0_3] 37 (0, 0)) QQ) : gb126 ≠ gb101)); have n12_ := Y0.mk ((by rw [hg]; exact Nat.ne_of_lt (Y14 (g := gb115) (o := .cells #[.int .i64 t105, .string t106, .slice Ao38 t107.length co38, .slice Ao39 t110.length co39] 37 (0, 0)) QQ) : gb115 ≠ gb126)); have n13_ := Y0.mk ((by rw [hg]; exact Nat.ne_of_gt (Y14 (g := gb115) (o := .cells #[.int .i64 t105, .string t106, .slice Ao38 t107.length co38, .slice Ao39 t110.length co39] 37 (0, 0)) QQ) : gb126 ≠ gb115)); clear HO109 HO112 HO120 HO123 BK101 BK115 HB; have HO109 := n0_; have HO112 := n1_; have HO120 := n2_; have HO123 := n3_; have BK101 := n4_; have BK115 := n5_; have HB := n6_; have BK126 := n7_; have GW126 := n8_; have GE126 := n9_; have NB101_126 := n10_; have NB126_101 := n11_; have NB115_126 := n12_; have NB126_115 := n13_; clear n0_ n1_ n2_ n3_ n4_ n5_ n6_ n7_ n8_ n9_ n10_ n11_ n12_ n13_ hb hbox hg; have hnb42 := NB126_101.out; have hnc42 := NB101_126.out; have hnb43 := NB126_115.out; have hnc43 := NB115_126.out; obtain ⟨hcz44_0, hcz44_1, hcz44_2, hcz44_3, hfz44_0, hfz44_1, hfz44_2, hfz44_3⟩ := YA BK126.out; obtain ⟨Ao45, co45, eo45⟩ := Kd.R_slice HO120.out; subst eo45; obtain ⟨Ao46, co46, eo46⟩ := Kd.N_slice HO123.out; subst eo46) | (go_at_call 27; (with_reducible refine (YV.calls kj3  t127 _ ?side1 A31.out).mono ?_); (case side1 => exact Z3); rintro e w47 ⟨rfl, hb⟩; have n0_ := Y0.mk (Kd.R_below (by (with_reducible repeat (first | apply Kd.R_alloc | apply Kd.R_drewN | apply Kd.R_drew)); exact (Kd.R_mono (Kd.R_far (p := ⟨gb126, 3, none⟩) (Kd.R_far (p := ⟨gb126, 2, none⟩) (Kd.R_far (p := ⟨gb126, 1, none⟩) (Kd.R_far (p := ⟨gb126, 0, none⟩) (Kd.R_types HO109.out BK126.out (by decide)) (fun _ hk => hk.2) (.int .i64 t116)) (fun _ hk => hk.2) (.string t117)) (fun _ hk => hk.2) (.slice Ao45 t118.length co45)) (fun _ hk => hk.2) (.slice Ao46 t121.length co46)) (fun _ h_ => h_.1))) hb); have n1_ := Y0.mk (Kd.N_below (by (with_reducible repeat (first | apply Kd.N_alloc | apply Kd.N_drewN | apply Kd.N_drew)); exact (Kd.N_mono (Kd.N_far (p := ⟨gb126, 3, none⟩) (Kd.N_far (p := ⟨gb126, 2, none⟩) (Kd.N_far (p := ⟨gb126, 1, none⟩) (Kd.N_far (p := ⟨gb126, 0, none⟩) (Kd.N_mono HO112.out (fun k_ hk => (⟨hk, hk.2⟩ : _ ∧ k_ ≠ gb126))) (fun _ hk => hk.2) (.int .i64 t116)) (fun _ hk => hk.2) (.string t117)) (fun _ hk => hk.2) (.slice Ao45 t118.length co45)) (fun _ hk => hk.2) (.slice Ao46 t121.length co46)) (fun _ h_ => h_.1))) hb); have n2_ := Y0.mk (Kd.R_below (by (with_reducible repeat (first | apply Kd.R_alloc | apply Kd.R_drewN | apply Kd.R_drew)); exact (Kd.R_mono (Kd.R_far (p := ⟨gb126, 3, none⟩) (Kd.R_far (p := ⟨gb126, 2, none⟩) (Kd.R_far (p := ⟨gb126, 1, none⟩) (Kd.R_far (p := ⟨gb126, 0, none⟩) (Kd.R_types HO120.out BK126.out (by decide)) (fun _ hk => hk.2) (.int .i64 t116)) (fun _ hk => hk.2) (.string t117)) (fun _ hk => hk.2) (.slice Ao45 t118.length co45)) (fun _ hk => hk.2) (.slice Ao46 t121.length co46)) (fun _ h_ => h_.1))) hb); have n3_ := Y0.mk (Kd.N_below (by (with_reducible repeat (first | apply Kd.N_alloc | apply Kd.N_drewN | apply Kd.N_drew)); exact (Kd.N_mono (Kd.N_far (p := ⟨gb126, 3, none⟩) (Kd.N_far (p := ⟨gb126, 2, none⟩) (Kd.N_far (p := ⟨gb126, 1, none⟩) (Kd.N_far (p := ⟨gb126, 0, none⟩) (Kd.N_mono HO123.out (fun k_ hk => (⟨hk, hk.2⟩ : _ ∧ k_ ≠ gb126))) (fun _ hk => hk.2) (.int .i64 t116)) (fun _ hk => hk.2) (.string t117)) (fun _ hk => hk.2) (.slice Ao45 t118.length co45)) (fun _ hk => hk.2) (.slice Ao46 t121.length co46)) (fun _ h_ => h_.1))) hb); have n4_ := Y0.mk (Yt (g := gb101) (o := .cells #[.int .i64 a0_0, .string a0_1, .slice A0_2 l0_2.length c0_2, .slice A0_3 l0_3.length c0_3] 37 (0, 0)) (by (with_reducible repeat (first | refine Yh ?_ _ | refine Yb ?_ | refine Yd ?_ _)); exact Y13 (by (with_reducible repeat (first | refine Yh ?_ _ | refine Yb ?_ | refine Yd ?_ _)); exact Y13 (by (with_reducible repeat (first | refine Yh ?_ _ | refine Yb ?_ | refine Yd ?_ _)); exact Y13 (by (with_reducible repeat (first | refine Yh ?_ _ | refine Yb ?_ | refine Yd ?_ _)); exact Y13 QQ NB101_126.out _) NB101_126.out _) NB101_126.out _) NB101_126.out _) hb); have n5_ := Y0.mk (Yt (g := gb115) (o := .cells #[.int .i64 t105, .string t106, .slice Ao38 t107.length co38, .slice Ao39 t110.length co39] 37 (0, 0)) (by (with_reducible repeat (first | refine Yh ?_ _ | refine Yb ?_ | refine Yd ?_ _)); exact Y13 (by (with_reducible repeat (first | refine Yh ?_ _ | refine Yb ?_ | refine Yd ?_ _)); exact Y13 (by (with_reducible repeat (first | refine Yh ?_ _ | refine Yb ?_ | refine Yd ?_ _)); exact Y13 (by (with_reducible repeat (first | refine Yh ?_ _ | refine Yb ?_ | refine Yd ?_ _)); exact Y13 QQ NB115_126.out _) NB115_126.out _) NB115_126.out _) NB115_126.out _) hb); have n6_ := Y0.mk (Yt (g := gb126) (o := .cells #[.int .i64 t116, .string t117, .slice Ao45 t118.length co45, .slice Ao46 t121.length co46] 37 (0, 0)) (by (with_reducible repeat (first | refine Yh ?_ _ | refine Yb ?_ | refine Yd ?_ _)); exact YE (cs := #[.int .i64 t116, .string t117, .slice Ao45 t118.length co45, .slice none 0 0]) (by (with_reducible repeat (first | refine Yh ?_ _ | refine Yb ?_ | refine Yd ?_ _)); exact YE (cs := #[.int .i64 t116, .string t117, .slice none 0 0, .slice none 0 0]) (by (with_reducible repeat (first | refine Yh ?_ _ | refine Yb ?_ | refine Yd ?_ _)); exact YE (cs := #[.int .i64 t116, .string (⟨#[]⟩ : ByteArray), .slice none 0 0, .slice none 0 0]) Z1 1 _ rfl) 2 _ rfl) 3 _ rfl) hb); have n7_ := Y0.mk (Y8 QB hb); clear HO109 HO112 HO120 HO123 BK101 BK115 BK126 HB; have HO109 := n0_; have HO112 := n1_; have HO120 := n2_; have HO123 := n3_; have BK101 := n4_; have BK115 := n5_; have BK126 := n6_; have HB := n7_; clear n0_ n1_ n2_ n3_ n4_ n5_ n6_ n7_; (try clear hb); (try clear hb2); (try clear hk); (try clear hi)))
          go_ret
          exact Z1f
         ·rw [if_neg c30] at H
          have c30b0 : (t114 == t125) = false := beq_eq_false_iff_ne.mpr c30
          have c30b1 : (t114 != t125) = true := bne_iff_ne.mpr c30
          obtain rfl := Option.some.inj H
          obtain ⟨hcz48_0, hcz48_1, hcz48_2, hcz48_3, hfz48_0, hfz48_1, hfz48_2, hfz48_3⟩ := YA BK101.out
          go_wp2_with (first | ((with_reducible refine Yl (f := 29) rfl ?_); refine YO (some 28) rfl rfl Tryd.func29 Z4 rfl #[.agg #[.int .i64 a0_0, .string a0_1, .slice A0_2 l0_2.length c0_2, .slice A0_3 l0_3.length c0_3]] rfl Z0 ?_; (with_reducible refine (Yg.calls kj3 a0_0 a0_1 _ _ l0_2 _ _ l0_3 t104 _ ?side1 ?side2 ?side3 ?side4 A21.out).mono ?_); (case side1 => exact Zc); (case side2 => exact Z1P); (case side3 => exact Zd); (case side4 => exact Z24); rintro e w49 ⟨rfl, hb⟩; refine ⟨_, rfl, ?_⟩; have n_ := Y2d (Yt (g := gb101) (o := .cells #[.int .i64 a0_0, .string a0_1, .slice A0_2 l0_2.length c0_2, .slice A0_3 l0_3.length c0_3] 37 (0, 0)) QQ hb) (Y8 QB hb); clear BK101 HB; obtain ⟨BK101, HB⟩ := n_; (try clear hb); (try clear hb2); (try clear hk); (try clear hi)) | ((with_reducible refine Yl (f := 25) rfl ?_); refine YO (some 41) rfl rfl Tryd.func25 Z4 rfl #[.string ((t104.extract 0 ((ji23) : Int).toNat) ++ a2)] rfl ZC ?_; (with_reducible refine (YI.calls kj3 ((t104.extract 0 ((ji23) : Int).toNat) ++ a2) t105 t106 t107 t110 t113 t114 _ ?side1 A27.out).mono ?_); (case side1 => exact Z3); rintro e w50 ⟨v108, v111, rfl, ho0, ho1, hb⟩; refine ⟨_, rfl, ?_⟩; have n_ := Y2N (Kd.R_lower (Kd.R_mono (ok' := fun k_ => True) ho0 (fun _ hk_ => trivial)) (Yf QB)) (Kd.N_lower (Kd.N_mono (ok' := fun k_ => some k_ ≠ (v108 : Value).ownBlock ∧ k_ ≠ gb101) ho1 (fun k_ hk_ => ⟨hk_.2, (Kd.freshB (g := gb101) (o := .cells #[.int .i64 a0_0, .string a0_1, .slice A0_2 l0_2.length c0_2, .slice A0_3 l0_3.length c0_3] 37 (0, 0)) QQ k_ hk_.1)⟩)) (Yf QB)) (Yt (g := gb101) (o := .cells #[.int .i64 a0_0, .string a0_1, .slice A0_2 l0_2.length c0_2, .slice A0_3 l0_3.length c0_3] 37 (0, 0)) QQ hb) (Y8 QB hb); clear BK101 HB; obtain ⟨HO109, HO112, BK101, HB⟩ := n_; (try clear hb); (try clear hb2); (try clear hk); (try clear hi); (try clear ho0); (try clear ho1)) | ((with_reducible refine YF (N := 9) rfl ?_); (try (refine YW (by rfl) ?_; dsimp only)); refine YD ?hg (N := 9) ?hd (cs := #[.int .i64 0, .string (⟨#[]⟩ : ByteArray), .slice none 0 0, .slice none 0 0]) (t := 37) ?hr ?_; (case hd => rfl); (case hg => rfl); (case hr => exact Zb); intro gb115 hg w51 hbox hb; have n_ := put9 (Kd.R_below ZT hb) (Kd.N_below (Kd.N_elderB ZR gb115 (Nat.le_of_eq hg.symm)) hb) (Yt (g := gb101) (o := .cells #[.int .i64 a0_0, .string a0_1, .slice A0_2 l0_2.length c0_2, .slice A0_3 l0_3.length c0_3] 37 (0, 0)) QQ hb) (Y8 QB hb) (hbox) ((by rw [hg]; exact (Yf QB) : w.heap.size ≤ gb115)) ((by rw [hg]; exact (Yf QB) : w.heap.size ≤ gb115)) ((by rw [hg]; exact Nat.ne_of_lt (Y14 (g := gb101) (o := .cells #[.int .i64 a0_0, .string a0_1, .slice A0_2 l0_2.length c0_2, .slice A0_3 l0_3.length c0_3] 37 (0, 0)) QQ) : gb101 ≠ gb115)) ((by rw [hg]; exact Nat.ne_of_gt (Y14 (g := gb101) (o := .cells #[.int .i64 a0_0, .string a0_1, .slice A0_2 l0_2.length c0_2, .slice A0_3 l0_3.length c0_3] 37 (0, 0)) QQ) : gb115 ≠ gb101)); clear HO109 HO112 BK101 HB; obtain ⟨HO109, HO112, BK101, HB, BK115, GW115, GE115, NB101_115, NB115_101⟩ := n_; clear hb hbox hg; have hnb52 := NB115_101.out; have hnc52 := NB101_115.out; obtain ⟨hcz53_0, hcz53_1, hcz53_2, hcz53_3, hfz53_0, hfz53_1, hfz53_2, hfz53_3⟩ := YA BK115.out; obtain ⟨Ao54, co54, eo54⟩ := Kd.R_slice HO109.out; subst eo54; obtain ⟨Ao55, co55, eo55⟩ := Kd.N_slice HO112.out; subst eo55) | ((with_reducible refine Yl (f := 26) rfl ?_); refine YO (some 47) rfl rfl Tryd.func26 Z4 rfl #[.string ((t104.extract 0 ((ji23) : Int).toNat) ++ a2)] rfl ZC ?_; (with_reducible refine (YB.calls kj3 ((t104.extract 0 ((ji23) : Int).toNat) ++ a2) t116 t117 t118 t121 t124 t125 _ ?side1 A28.out).mono ?_); (case side1 => exact Z3); rintro e w56 ⟨v119, v122, rfl, ho0, ho1, hb⟩; refine ⟨_, rfl, ?_⟩; have n0_ := Y0.mk (Kd.R_elder' Zy (Kd.R_base ho0) hb); have n1_ := Y0.mk (Kd.N_mono (Kd.N_told (Kd.N_told (Kd.N_old ZZ hb) (Kd.R_base ho0)) (Kd.N_base ho1)) (fun _ h_ => h_.1)); have n2_ := Y0.mk (Kd.R_lower (Kd.R_new' (Kd.R_mono (ok' := fun k_ => True) ho0 (fun _ hk_ => trivial)) (Kd.R_lt Zy)) (Yf QB)); have n3_ := Y0.mk (Kd.N_lower (Kd.N_mono (ok' := fun k_ => some k_ ≠ (v119 : Value).ownBlock ∧ some k_ ≠ (.slice Ao54 t107.length co54 : Value).ownBlock ∧ some k_ ≠ (.slice Ao55 t110.length co55 : Value).ownBlock ∧ k_ ≠ gb101 ∧ k_ ≠ gb115) ho1 (fun k_ hk_ => ⟨hk_.2, (Kd.fresh' (Kd.R_lt Zy) k_ hk_.1), (Kd.fresh' (Kd.N_lt ZZ) k_ hk_.1), (Kd.freshB (g := gb101) (o := .cells #[.int .i64 a0_0, .string a0_1, .slice A0_2 l0_2.length c0_2, .slice A0_3 l0_3.length c0_3] 37 (0, 0)) Z7 k_ hk_.1), (Kd.freshB (g := gb115) (o := .cells #[.int .i64 t105, .string t106, .slice Ao54 t107.length co54, .slice Ao55 t110.length co55] 37 (0, 0)) Z2E k_ hk_.1)⟩)) (Yf QB)); have n4_ := Y0.mk (Yt (g := gb101) (o := .cells #[.int .i64 a0_0, .string a0_1, .slice A0_2 l0_2.length c0_2, .slice A0_3 l0_3.length c0_3] 37 (0, 0)) Z7 hb); have n5_ := Y0.mk (Yt (g := gb115) (o := .cells #[.int .i64 t105, .string t106, .slice Ao54 t107.length co54, .slice Ao55 t110.length co55] 37 (0, 0)) Z2E hb); have n6_ := Y0.mk (Y8 QB hb); clear HO109 HO112 BK101 BK115 HB; have HO109 := n0_; have HO112 := n1_; have HO120 := n2_; have HO123 := n3_; have BK101 := n4_; have BK115 := n5_; have HB := n6_; clear n0_ n1_ n2_ n3_ n4_ n5_ n6_; (try clear hb); (try clear hb2); (try clear hk); (try clear hi); (try clear ho0); (try clear ho1)) | ((with_reducible refine YF (N := 12) rfl ?_); (try (refine YW (by rfl) ?_; dsimp only)); refine YD ?hg (N := 12) ?hd (cs := #[.int .i64 0, .string (⟨#[]⟩ : ByteArray), .slice none 0 0, .slice none 0 0]) (t := 37) ?hr ?_; (case hd => rfl); (case hg => rfl); (case hr => exact Zb); intro gb126 hg w57 hbox hb; have n0_ := Y0.mk (Kd.R_below ZT hb); have n1_ := Y0.mk (Kd.N_below (Kd.N_elderB ZR gb126 (Nat.le_of_eq hg.symm)) hb); have n2_ := Y0.mk (Kd.R_below Z1n hb); have n3_ := Y0.mk (Kd.N_below (Kd.N_elderB Z1l gb126 (Nat.le_of_eq hg.symm)) hb); have n4_ := Y0.mk (Yt (g := gb101) (o := .cells #[.int .i64 a0_0, .string a0_1, .slice A0_2 l0_2.length c0_2, .slice A0_3 l0_3.length c0_3] 37 (0, 0)) QQ hb); have n5_ := Y0.mk (Yt (g := gb115) (o := .cells #[.int .i64 t105, .string t106, .slice Ao54 t107.length co54, .slice Ao55 t110.length co55] 37 (0, 0)) QQ hb); have n6_ := Y0.mk (Y8 QB hb); have n7_ := Y0.mk (hbox); have n8_ := Y0.mk ((by rw [hg]; exact (Yf QB) : w.heap.size ≤ gb126)); have n9_ := Y0.mk ((by rw [hg]; exact (Yf QB) : w.heap.size ≤ gb126)); have n10_ := Y0.mk ((by rw [hg]; exact Nat.ne_of_lt (Y14 (g := gb101) (o := .cells #[.int .i64 a0_0, .string a0_1, .slice A0_2 l0_2.length c0_2, .slice A0_3 l0_3.length c0_3] 37 (0, 0)) QQ) : gb101 ≠ gb126)); have n11_ := Y0.mk ((by rw [hg]; exact Nat.ne_of_gt (Y14 (g := gb101) (o := .cells #[.int .i64 a0_0, .string a0_1, .slice A0_2 l0_2.length c0_2, .slice A0_3 l0_3.length c0_3] 37 (0, 0)) QQ) : gb126 ≠ gb101)); have n12_ := Y0.mk ((by rw [hg]; exact Nat.ne_of_lt (Y14 (g := gb115) (o := .cells #[.int .i64 t105, .string t106, .slice Ao54 t107.length co54, .slice Ao55 t110.length co55] 37 (0, 0)) QQ) : gb115 ≠ gb126)); have n13_ := Y0.mk ((by rw [hg]; exact Nat.ne_of_gt (Y14 (g := gb115) (o := .cells #[.int .i64 t105, .string t106, .slice Ao54 t107.length co54, .slice Ao55 t110.length co55] 37 (0, 0)) QQ) : gb126 ≠ gb115)); clear HO109 HO112 HO120 HO123 BK101 BK115 HB; have HO109 := n0_; have HO112 := n1_; have HO120 := n2_; have HO123 := n3_; have BK101 := n4_; have BK115 := n5_; have HB := n6_; have BK126 := n7_; have GW126 := n8_; have GE126 := n9_; have NB101_126 := n10_; have NB126_101 := n11_; have NB115_126 := n12_; have NB126_115 := n13_; clear n0_ n1_ n2_ n3_ n4_ n5_ n6_ n7_ n8_ n9_ n10_ n11_ n12_ n13_ hb hbox hg; have hnb58 := NB126_101.out; have hnc58 := NB101_126.out; have hnb59 := NB126_115.out; have hnc59 := NB115_126.out; obtain ⟨hcz60_0, hcz60_1, hcz60_2, hcz60_3, hfz60_0, hfz60_1, hfz60_2, hfz60_3⟩ := YA BK126.out; obtain ⟨Ao61, co61, eo61⟩ := Kd.R_slice HO120.out; subst eo61; obtain ⟨Ao62, co62, eo62⟩ := Kd.N_slice HO123.out; subst eo62))
          go_ret
          exact Z1f
        ·rw [if_neg c29] at H
         have c29b0 : (t113 == t124) = false := beq_eq_false_iff_ne.mpr c29
         have c29b1 : (t113 != t124) = true := bne_iff_ne.mpr c29
         obtain rfl := Option.some.inj H
         obtain ⟨hcz63_0, hcz63_1, hcz63_2, hcz63_3, hfz63_0, hfz63_1, hfz63_2, hfz63_3⟩ := YA BK101.out
         go_wp2_with (first | ((with_reducible refine Yl (f := 29) rfl ?_); refine YO (some 28) rfl rfl Tryd.func29 Z4 rfl #[.agg #[.int .i64 a0_0, .string a0_1, .slice A0_2 l0_2.length c0_2, .slice A0_3 l0_3.length c0_3]] rfl Z0 ?_; (with_reducible refine (Yg.calls kj3 a0_0 a0_1 _ _ l0_2 _ _ l0_3 t104 _ ?side1 ?side2 ?side3 ?side4 A21.out).mono ?_); (case side1 => exact Zc); (case side2 => exact Z1P); (case side3 => exact Zd); (case side4 => exact Z24); rintro e w64 ⟨rfl, hb⟩; refine ⟨_, rfl, ?_⟩; have n_ := Y2d (Yt (g := gb101) (o := .cells #[.int .i64 a0_0, .string a0_1, .slice A0_2 l0_2.length c0_2, .slice A0_3 l0_3.length c0_3] 37 (0, 0)) QQ hb) (Y8 QB hb); clear BK101 HB; obtain ⟨BK101, HB⟩ := n_; (try clear hb); (try clear hb2); (try clear hk); (try clear hi)) | ((with_reducible refine Yl (f := 25) rfl ?_); refine YO (some 41) rfl rfl Tryd.func25 Z4 rfl #[.string ((t104.extract 0 ((ji23) : Int).toNat) ++ a2)] rfl ZC ?_; (with_reducible refine (YI.calls kj3 ((t104.extract 0 ((ji23) : Int).toNat) ++ a2) t105 t106 t107 t110 t113 t114 _ ?side1 A27.out).mono ?_); (case side1 => exact Z3); rintro e w65 ⟨v108, v111, rfl, ho0, ho1, hb⟩; refine ⟨_, rfl, ?_⟩; have n_ := Y2N (Kd.R_lower (Kd.R_mono (ok' := fun k_ => True) ho0 (fun _ hk_ => trivial)) (Yf QB)) (Kd.N_lower (Kd.N_mono (ok' := fun k_ => some k_ ≠ (v108 : Value).ownBlock ∧ k_ ≠ gb101) ho1 (fun k_ hk_ => ⟨hk_.2, (Kd.freshB (g := gb101) (o := .cells #[.int .i64 a0_0, .string a0_1, .slice A0_2 l0_2.length c0_2, .slice A0_3 l0_3.length c0_3] 37 (0, 0)) QQ k_ hk_.1)⟩)) (Yf QB)) (Yt (g := gb101) (o := .cells #[.int .i64 a0_0, .string a0_1, .slice A0_2 l0_2.length c0_2, .slice A0_3 l0_3.length c0_3] 37 (0, 0)) QQ hb) (Y8 QB hb); clear BK101 HB; obtain ⟨HO109, HO112, BK101, HB⟩ := n_; (try clear hb); (try clear hb2); (try clear hk); (try clear hi); (try clear ho0); (try clear ho1)) | ((with_reducible refine YF (N := 9) rfl ?_); (try (refine YW (by rfl) ?_; dsimp only)); refine YD ?hg (N := 9) ?hd (cs := #[.int .i64 0, .string (⟨#[]⟩ : ByteArray), .slice none 0 0, .slice none 0 0]) (t := 37) ?hr ?_; (case hd => rfl); (case hg => rfl); (case hr => exact Zb); intro gb115 hg w66 hbox hb; have n_ := put9 (Kd.R_below ZT hb) (Kd.N_below (Kd.N_elderB ZR gb115 (Nat.le_of_eq hg.symm)) hb) (Yt (g := gb101) (o := .cells #[.int .i64 a0_0, .string a0_1, .slice A0_2 l0_2.length c0_2, .slice A0_3 l0_3.length c0_3] 37 (0, 0)) QQ hb) (Y8 QB hb) (hbox) ((by rw [hg]; exact (Yf QB) : w.heap.size ≤ gb115)) ((by rw [hg]; exact (Yf QB) : w.heap.size ≤ gb115)) ((by rw [hg]; exact Nat.ne_of_lt (Y14 (g := gb101) (o := .cells #[.int .i64 a0_0, .string a0_1, .slice A0_2 l0_2.length c0_2, .slice A0_3 l0_3.length c0_3] 37 (0, 0)) QQ) : gb101 ≠ gb115)) ((by rw [hg]; exact Nat.ne_of_gt (Y14 (g := gb101) (o := .cells #[.int .i64 a0_0, .string a0_1, .slice A0_2 l0_2.length c0_2, .slice A0_3 l0_3.length c0_3] 37 (0, 0)) QQ) : gb115 ≠ gb101)); clear HO109 HO112 BK101 HB; obtain ⟨HO109, HO112, BK101, HB, BK115, GW115, GE115, NB101_115, NB115_101⟩ := n_; clear hb hbox hg; have hnb67 := NB115_101.out; have hnc67 := NB101_115.out; obtain ⟨hcz68_0, hcz68_1, hcz68_2, hcz68_3, hfz68_0, hfz68_1, hfz68_2, hfz68_3⟩ := YA BK115.out; obtain ⟨Ao69, co69, eo69⟩ := Kd.R_slice HO109.out; subst eo69; obtain ⟨Ao70, co70, eo70⟩ := Kd.N_slice HO112.out; subst eo70) | ((with_reducible refine Yl (f := 26) rfl ?_); refine YO (some 47) rfl rfl Tryd.func26 Z4 rfl #[.string ((t104.extract 0 ((ji23) : Int).toNat) ++ a2)] rfl ZC ?_; (with_reducible refine (YB.calls kj3 ((t104.extract 0 ((ji23) : Int).toNat) ++ a2) t116 t117 t118 t121 t124 t125 _ ?side1 A28.out).mono ?_); (case side1 => exact Z3); rintro e w71 ⟨v119, v122, rfl, ho0, ho1, hb⟩; refine ⟨_, rfl, ?_⟩; have n0_ := Y0.mk (Kd.R_elder' Zz (Kd.R_base ho0) hb); have n1_ := Y0.mk (Kd.N_mono (Kd.N_told (Kd.N_told (Kd.N_old Z10 hb) (Kd.R_base ho0)) (Kd.N_base ho1)) (fun _ h_ => h_.1)); have n2_ := Y0.mk (Kd.R_lower (Kd.R_new' (Kd.R_mono (ok' := fun k_ => True) ho0 (fun _ hk_ => trivial)) (Kd.R_lt Zz)) (Yf QB)); have n3_ := Y0.mk (Kd.N_lower (Kd.N_mono (ok' := fun k_ => some k_ ≠ (v119 : Value).ownBlock ∧ some k_ ≠ (.slice Ao69 t107.length co69 : Value).ownBlock ∧ some k_ ≠ (.slice Ao70 t110.length co70 : Value).ownBlock ∧ k_ ≠ gb101 ∧ k_ ≠ gb115) ho1 (fun k_ hk_ => ⟨hk_.2, (Kd.fresh' (Kd.R_lt Zz) k_ hk_.1), (Kd.fresh' (Kd.N_lt Z10) k_ hk_.1), (Kd.freshB (g := gb101) (o := .cells #[.int .i64 a0_0, .string a0_1, .slice A0_2 l0_2.length c0_2, .slice A0_3 l0_3.length c0_3] 37 (0, 0)) Z7 k_ hk_.1), (Kd.freshB (g := gb115) (o := .cells #[.int .i64 t105, .string t106, .slice Ao69 t107.length co69, .slice Ao70 t110.length co70] 37 (0, 0)) Z2F k_ hk_.1)⟩)) (Yf QB)); have n4_ := Y0.mk (Yt (g := gb101) (o := .cells #[.int .i64 a0_0, .string a0_1, .slice A0_2 l0_2.length c0_2, .slice A0_3 l0_3.length c0_3] 37 (0, 0)) Z7 hb); have n5_ := Y0.mk (Yt (g := gb115) (o := .cells #[.int .i64 t105, .string t106, .slice Ao69 t107.length co69, .slice Ao70 t110.length co70] 37 (0, 0)) Z2F hb); have n6_ := Y0.mk (Y8 QB hb); clear HO109 HO112 BK101 BK115 HB; have HO109 := n0_; have HO112 := n1_; have HO120 := n2_; have HO123 := n3_; have BK101 := n4_; have BK115 := n5_; have HB := n6_; clear n0_ n1_ n2_ n3_ n4_ n5_ n6_; (try clear hb); (try clear hb2); (try clear hk); (try clear hi); (try clear ho0); (try clear ho1)) | ((with_reducible refine YF (N := 12) rfl ?_); (try (refine YW (by rfl) ?_; dsimp only)); refine YD ?hg (N := 12) ?hd (cs := #[.int .i64 0, .string (⟨#[]⟩ : ByteArray), .slice none 0 0, .slice none 0 0]) (t := 37) ?hr ?_; (case hd => rfl); (case hg => rfl); (case hr => exact Zb); intro gb126 hg w72 hbox hb; have n0_ := Y0.mk (Kd.R_below ZT hb); have n1_ := Y0.mk (Kd.N_below (Kd.N_elderB ZR gb126 (Nat.le_of_eq hg.symm)) hb); have n2_ := Y0.mk (Kd.R_below Z1n hb); have n3_ := Y0.mk (Kd.N_below (Kd.N_elderB Z1l gb126 (Nat.le_of_eq hg.symm)) hb); have n4_ := Y0.mk (Yt (g := gb101) (o := .cells #[.int .i64 a0_0, .string a0_1, .slice A0_2 l0_2.length c0_2, .slice A0_3 l0_3.length c0_3] 37 (0, 0)) QQ hb); have n5_ := Y0.mk (Yt (g := gb115) (o := .cells #[.int .i64 t105, .string t106, .slice Ao69 t107.length co69, .slice Ao70 t110.length co70] 37 (0, 0)) QQ hb); have n6_ := Y0.mk (Y8 QB hb); have n7_ := Y0.mk (hbox); have n8_ := Y0.mk ((by rw [hg]; exact (Yf QB) : w.heap.size ≤ gb126)); have n9_ := Y0.mk ((by rw [hg]; exact (Yf QB) : w.heap.size ≤ gb126)); have n10_ := Y0.mk ((by rw [hg]; exact Nat.ne_of_lt (Y14 (g := gb101) (o := .cells #[.int .i64 a0_0, .string a0_1, .slice A0_2 l0_2.length c0_2, .slice A0_3 l0_3.length c0_3] 37 (0, 0)) QQ) : gb101 ≠ gb126)); have n11_ := Y0.mk ((by rw [hg]; exact Nat.ne_of_gt (Y14 (g := gb101) (o := .cells #[.int .i64 a0_0, .string a0_1, .slice A0_2 l0_2.length c0_2, .slice A0_3 l0_3.length c0_3] 37 (0, 0)) QQ) : gb126 ≠ gb101)); have n12_ := Y0.mk ((by rw [hg]; exact Nat.ne_of_lt (Y14 (g := gb115) (o := .cells #[.int .i64 t105, .string t106, .slice Ao69 t107.length co69, .slice Ao70 t110.length co70] 37 (0, 0)) QQ) : gb115 ≠ gb126)); have n13_ := Y0.mk ((by rw [hg]; exact Nat.ne_of_gt (Y14 (g := gb115) (o := .cells #[.int .i64 t105, .string t106, .slice Ao69 t107.length co69, .slice Ao70 t110.length co70] 37 (0, 0)) QQ) : gb126 ≠ gb115)); clear HO109 HO112 HO120 HO123 BK101 BK115 HB; have HO109 := n0_; have HO112 := n1_; have HO120 := n2_; have HO123 := n3_; have BK101 := n4_; have BK115 := n5_; have HB := n6_; have BK126 := n7_; have GW126 := n8_; have GE126 := n9_; have NB101_126 := n10_; have NB126_101 := n11_; have NB115_126 := n12_; have NB126_115 := n13_; clear n0_ n1_ n2_ n3_ n4_ n5_ n6_ n7_ n8_ n9_ n10_ n11_ n12_ n13_ hb hbox hg; have hnb73 := NB126_101.out; have hnc73 := NB101_126.out; have hnb74 := NB126_115.out; have hnc74 := NB115_126.out; obtain ⟨hcz75_0, hcz75_1, hcz75_2, hcz75_3, hfz75_0, hfz75_1, hfz75_2, hfz75_3⟩ := YA BK126.out; obtain ⟨Ao76, co76, eo76⟩ := Kd.R_slice HO120.out; subst eo76; obtain ⟨Ao77, co77, eo77⟩ := Kd.N_slice HO123.out; subst eo77))
         go_ret
         exact Z1f
       ·rw [if_neg c26] at H
        exact Zn
      ·rw [if_neg c25] at H
       exact Zn
     ·rw [if_neg c24] at H
      exact Zn
def YM.l0 : Nat → List ByteArray → List ByteArray → Int → Int → Option (Bool)
 | 0, _, _, _, _ => none
 | k + 1, x0, x1, x12, x13 => if x13 < x12 then (if 0 ≤ x13 then (if x13 < (x0.length : Int) then (if x13 < (x1.length : Int) then (if (Y39 ByteArray.empty x0 x13).toList = (Y39 ByteArray.empty x1 x13).toList then (YM.l0 k x0 x1 x12 (wrap64 (x13 + 1))) else (some false)) else (none)) else (none)) else (none)) else (some true)
def YM.f (k : Nat) (l0 : List ByteArray) (l1 : List ByteArray) : Option (Bool) := if (l0.length : Int) = (l1.length : Int) then (YM.l0 k l0 l1 (l0.length : Int) 0) else (some false)
theorem YM.mono_l : ∀ k, (∀ y0 y1 y2 y3, LeO (YM.l0 k y0 y1 y2 y3) (YM.l0 (k + 1) y0 y1 y2 y3))
 | 0 => fun _ _ _ _ r h => by simp [YM.l0] at h
 | k + 1 => by
  have ih0 := YM.mono_l k
  ·intro y0 y1 y2 y3
   unfold YM.l0
   exact QM
theorem YM.mono : ∀ a0 a1 k, LeO (YM.f k a0 a1) (YM.f (k + 1) a0 a1) := by
 intro a0 a1 k
 have ih0 := YM.mono_l k
 unfold YM.f
 exact QM
mutual
def Y1N.f : Nat → Int → ByteArray → List ByteArray → List (S37) → Int → ByteArray → List ByteArray → List (S37) → Option (Bool)
 | 0, _, _, _, _, _, _, _, _ => none
 | k + 1, a0_0, a0_1, l0_2, l0_3, a1_0, a1_1, l1_2, l1_3 => if a0_0 = a1_0 then (if a0_1.toList = a1_1.toList then ((YM.f k l0_2 l1_2).bind fun t103 => (if t103 = true then ((Y2l.f k l0_3 l1_3).bind fun t104 => (some t104)) else (some false))) else (some false)) else (some false)
def Y2l.l0 : Nat → List (S37) → List (S37) → Int → Int → Option (Bool)
 | 0, _, _, _, _ => none
 | k + 1, x1, x15, x16, x17 => if x17 < x16 then (if 0 ≤ x17 then (if x17 < (x15.length : Int) then (if x17 < (x1.length : Int) then ((Y1N.f k ((Yc x15 x17).f0) ((Yc x15 x17).f1) ((Yc x15 x17).f2) ((Yc x15 x17).f3) ((Yc x1 x17).f0) ((Yc x1 x17).f1) ((Yc x1 x17).f2) ((Yc x1 x17).f3)).bind fun t109 => (if t109 = true then (Y2l.l0 k x1 x15 x16 (wrap64 (x17 + 1))) else (some false))) else (none)) else (none)) else (none)) else (some true)
def Y2l.f : Nat → List (S37) → List (S37) → Option (Bool)
 | 0, _, _ => none
 | k + 1, l0, l1 => if (l0.length : Int) = (l1.length : Int) then (Y2l.l0 k l1 l0 (l0.length : Int) 0) else (some false)
end
theorem Y1N.mono_j : ∀ k, (∀ y0 y1 y2 y3 y4 y5 y6 y7, LeO (Y1N.f k y0 y1 y2 y3 y4 y5 y6 y7) (Y1N.f (k + 1) y0 y1 y2 y3 y4 y5 y6 y7)) ∧ (∀ y0 y1, LeO (Y2l.f k y0 y1) (Y2l.f (k + 1) y0 y1)) ∧ (∀ y0 y1 y2 y3, LeO (Y2l.l0 k y0 y1 y2 y3) (Y2l.l0 (k + 1) y0 y1 y2 y3))
 | 0 => ⟨fun _ _ _ _ _ _ _ _ r h => by simp [Y1N.f] at h, fun _ _ r h => by simp [Y2l.f] at h, fun _ _ _ _ r h => by simp [Y2l.l0] at h⟩
 | k + 1 => by
  obtain ⟨ih0, ih1, ih2⟩ := Y1N.mono_j k
  refine ⟨?_, ?_, ?_⟩
  ·intro y0 y1 y2 y3 y4 y5 y6 y7
   unfold Y1N.f
   exact QM
  ·intro y0 y1
   unfold Y2l.f
   exact QM
  ·intro y0 y1 y2 y3
   unfold Y2l.l0
   exact QM
end Go.Proofs.YtbpbfboaofkpaaaDoor.Print
end
section
set_option linter.unusedVariables false
set_option linter.unusedSimpArgs false
namespace Go.Proofs.YtbpbfboaofkpaaaDoor.Print
open Go.RowKit Go.Shelf Go.Lib Go.Proofs.YtbpbfboaofkpaaaDoorW.PrintWords
def Suf (s : ByteArray) (l : List UInt8) : Prop := ∃ pre, s.data.toList = pre ++ l
def ps (s : ByteArray) (l : List UInt8) : Int := (s.size : Int) - (l.length : Int)
def hd : List UInt8 → Int
 | [] => 0
 | c :: _ => (c.toNat : Int)
def skip : List UInt8 → List UInt8
 | [] => []
 | c :: l => if c = 32 then skip l else c :: l
theorem Suf.tail {s : ByteArray} {c : UInt8} {l : List UInt8} (h : Suf s (c :: l)) : Suf s l := by
 obtain ⟨pre, h⟩ := h
 exact ⟨pre ++ [c], by simpa using h⟩
theorem Suf.app {s : ByteArray} {t l : List UInt8} (h : Suf s (t ++ l)) : Suf s l := by
 obtain ⟨pre, h⟩ := h
 exact ⟨pre ++ t, by simpa using h⟩
theorem Suf.skip {s : ByteArray} : ∀ {l : List UInt8}, Suf s l → Suf s (skip l)
 | [], h => h
 | c :: l, h => by
  unfold Print.skip
  by_cases e : c = 32
  ·rw [if_pos e]; exact Suf.skip h.tail
  ·rw [if_neg e]; exact h
theorem Suf.len {s : ByteArray} {l : List UInt8} (h : Suf s l) : l.length ≤ s.size := by
 obtain ⟨pre, h⟩ := h
 have := congrArg List.length h
 rw [Array.length_toList, List.length_append] at this
 have e : s.size = s.data.size := rfl
 omega
theorem Suf.whole (s : ByteArray) : Suf s s.data.toList := ⟨[], rfl⟩
theorem Y3A (s : ByteArray) : ps s s.data.toList = 0 := by
 unfold ps
 rw [Array.length_toList]
 have e : s.size = s.data.size := rfl
 omega
theorem Suf.ps0 {s : ByteArray} {l : List UInt8} (h : Suf s l) : 0 ≤ ps s l := by
 have := h.len; unfold ps; omega
theorem Y32 (s : ByteArray) : ps s [] = s.size := by simp [ps]
theorem Y2V (s : ByteArray) (c : UInt8) (l : List UInt8) : ps s (c :: l) < s.size := by simp [ps]; omega
theorem ps_le (s : ByteArray) (l : List UInt8) : ps s l ≤ s.size := by unfold ps; omega
theorem Y1l {s : ByteArray} (hs : s.size ≤ 100000000) {c : UInt8} {l : List UInt8} (h : Suf s (c :: l)) : wrap64 (ps s (c :: l) + 1) = ps s l := by
 have := h.len
 simp only [List.length_cons] at this
 unfold ps wrap64
 simp only [List.length_cons]
 omega
theorem Y4h {s : ByteArray} {c : UInt8} {l : List UInt8} (h : Suf s (c :: l)) : bt s (ps s (c :: l)) = (c.toNat : Int) := by
 obtain ⟨pre, h⟩ := h
 have hl := congrArg List.length h
 rw [Array.length_toList, List.length_append, List.length_cons] at hl
 have e : s.size = s.data.size := rfl
 have hp : (ps s (c :: l)).toNat = pre.length := by unfold ps; simp only [List.length_cons]; omega
 have hlt : (ps s (c :: l)).toNat < s.size := by omega
 unfold bt
 rw [dif_pos hlt]
 have hlt2 : (ps s (c :: l)).toNat < s.data.toList.length := by rw [Array.length_toList]; omega
 have : s[(ps s (c :: l)).toNat] = s.data.toList[(ps s (c :: l)).toNat] := rfl
 rw [this]
 simp [h, hp]
theorem Y3y (l : List UInt8) : (skip l).length ≤ l.length := by
 induction l with
 | nil => exact Nat.le_refl _
 | cons c l ih =>
  unfold skip
  split
  ·exact Nat.le_succ_of_le ih
  ·exact Nat.le_refl _
theorem Y6d {c : UInt8} {n : Nat} (h : n < 256) : ((c.toNat : Int) = (n : Int)) ↔ c = UInt8.ofNat n := by
 constructor
 ·intro e
  apply UInt8.toNat_inj.mp
  rw [UInt8.toNat_ofNat']
  omega
 ·intro e
  rw [e, UInt8.toNat_ofNat']
  omega
theorem Y1R (s : ByteArray) (hs : s.size ≤ 100000000) (o : Int) : ∀ l, Suf s l → Ev (fun k => Ym.f k s (ps s l) 0 o) (hd (skip l), s, ps s (skip l), 0, o)
 | [], h => by
  refine Ev.step (f := fun _ => _) (fun k => ?_) (Ev.now _)
  show Ym.l0 (k + 1) s (ps s []) 0 o = _
  simp only [Ym.l0, if_true]
  rw [Y32, if_neg (by omega), if_pos (by omega)]
  simp [skip, hd, Y32]
 | c :: l, h => by
  have b := Y4h h
  by_cases e : c = 32
  ·refine Ev.step (f := fun k => Ym.f k s (ps s l) 0 o) (fun k => ?_) ?_
   ·show Ym.l0 (k + 1) s (ps s (c :: l)) 0 o = Ym.l0 k s (ps s l) 0 o
    simp only [Ym.l0, if_true]
    rw [if_pos (Y2V s c l), if_pos h.ps0, b, if_pos (by rw [e]; rfl), Y1l hs h]
   ·have := Y1R s hs o l h.tail
    unfold skip; rw [if_pos e]; exact this
  ·refine Ev.step (f := fun _ => _) (fun k => ?_) (Ev.now _)
   show Ym.l0 (k + 1) s (ps s (c :: l)) 0 o = _
   simp only [Ym.l0, if_true]
   have hl := Y2V s c l
   rw [if_pos hl, if_pos h.ps0, b, if_neg (by intro e2; exact e ((Y6d (n := 32) (by omega)).mp e2)), if_neg (by omega)]
   unfold skip; rw [if_neg e]; rfl
theorem next_e (s : ByteArray) (a e o : Int) (he : e ≠ 0) : Ev (fun k => Ym.f k s a e o) (0, s, a, e, o) := by
 refine Ev.step (f := fun _ => _) (fun k => ?_) (Ev.now _)
 show Ym.l0 (k + 1) s a e o = _
 simp only [Ym.l0]
 rw [if_neg he]
theorem Y4I {s : ByteArray} (hs : s.size ≤ 100000000) (o : Int) {l : List UInt8} {c : UInt8} {r : List UInt8} (h : Suf s l) (e : skip l = c :: r) (n : Int) (hn : n = (c.toNat : Int)) :
  Ev (fun k => YS.f k s (ps s l) 0 o n) (true, s, ps s r, 0, o) := by
 have hq := h.skip
 rw [e] at hq
 have h1 := Y1R s hs o l h
 rw [e] at h1
 refine Ev.bind h1 (Ev.congr (fun k => ?_) (Ev.now _))
 show (if (c.toNat : Int) = n then _ else _) = _
 rw [if_pos hn.symm, Y1l hs hq]
theorem is_no {s : ByteArray} (hs : s.size ≤ 100000000) (o : Int) {l : List UInt8} (h : Suf s l) (n : Int) (hn : hd (skip l) ≠ n) :
  Ev (fun k => YS.f k s (ps s l) 0 o n) (false, s, ps s (skip l), 0, o) := by
 refine Ev.bind (Y1R s hs o l h) (Ev.congr (fun k => ?_) (Ev.now _))
 show (if hd (skip l) = n then _ else _) = _
 rw [if_neg hn]
theorem is_e (s : ByteArray) (a e o n : Int) (he : e ≠ 0) (hn : n ≠ 0) : Ev (fun k => YS.f k s a e o n) (false, s, a, e, o) := by
 refine Ev.bind (next_e s a e o he) (Ev.congr (fun k => ?_) (Ev.now _))
 show (if (0 : Int) = n then _ else _) = _
 rw [if_neg (fun q => hn q.symm)]
theorem Y3k (s : ByteArray) (a o b c : Int) : Ys.f s a 0 o b c = some (0, ⟨#[]⟩, [], [], s, a, c, b) := by
 unfold Ys.f; rw [if_pos rfl]
theorem fails_e (s : ByteArray) (a e o b c : Int) (he : e ≠ 0) : Ys.f s a e o b c = some (0, ⟨#[]⟩, [], [], s, a, e, o) := by
 unfold Ys.f; rw [if_neg he]
theorem Y6y {s : ByteArray} (hs : s.size ≤ 100000000) (o : Int) {l : List UInt8} {c : UInt8} {r : List UInt8} (h : Suf s l) (e : skip l = c :: r) (n : Int) (hn : n = (c.toNat : Int)) :
  Ev (fun k => YT.f k s (ps s l) 0 o n) (s, ps s r, 0, o) :=
 Ev.bind (Y4I hs o h e n hn) (Ev.congr (fun k => by simp) (Ev.now _))
theorem must_no {s : ByteArray} (hs : s.size ≤ 100000000) (o : Int) {l : List UInt8} (h : Suf s l) (n : Int) (hn : hd (skip l) ≠ n) :
  Ev (fun k => YT.f k s (ps s l) 0 o n) (s, ps s (skip l), 2, ps s (skip l)) :=
 Ev.bind (is_no hs o h n hn) (Ev.congr (fun k => by simp [Y3k]) (Ev.now _))
theorem must_e (s : ByteArray) (a e o n : Int) (he : e ≠ 0) (hn : n ≠ 0) : Ev (fun k => YT.f k s a e o n) (s, a, e, o) :=
 Ev.bind (is_e s a e o n he hn) (Ev.congr (fun k => by simp [fails_e _ _ _ _ _ _ he]) (Ev.now _))
def Y45 : List UInt8 → Option (List UInt8 × List UInt8)
 | [] => none
 | c :: l => if c = 62 then some ([], l) else (Y45 l).map fun x => (c :: x.1, x.2)
theorem Y30 : ∀ {l t r}, Y45 l = some (t, r) → l = t ++ 62 :: r ∧ ¬ (62 : UInt8) ∈ t
 | [], t, r, h => by simp [Y45] at h
 | c :: l, t, r, h => by
  unfold Y45 at h
  by_cases e : c = 62
  ·rw [if_pos e] at h
   simp only [Option.some.injEq, Prod.mk.injEq] at h
   obtain ⟨rfl, rfl⟩ := h
   simp [e]
  ·rw [if_neg e] at h
   cases hu : Y45 l with
   | none => rw [hu] at h; cases h
   | some x =>
    rw [hu] at h
    simp only [Option.map_some, Option.some.injEq, Prod.mk.injEq] at h
    obtain ⟨rfl, rfl⟩ := h
    obtain ⟨h1, h2⟩ := Y30 (t := x.1) (r := x.2) hu
    refine ⟨by rw [h1]; simp, ?_⟩
    simp only [List.mem_cons, not_or]
    exact ⟨fun q => e q.symm, h2⟩
theorem upGt_mk : ∀ (t r : List UInt8), ¬ (62 : UInt8) ∈ t → Y45 (t ++ 62 :: r) = some (t, r)
 | [], r, h => by simp [Y45]
 | c :: t, r, h => by
  simp only [List.mem_cons, not_or] at h
  simp only [List.cons_append]
  unfold Y45
  rw [if_neg (fun q => h.1 q.symm), upGt_mk t r h.2]
  rfl
theorem Y6s : ∀ l, Lib.index l [62] = (match Y45 l with | some (t, _) => (t.length : Int) | none => -1)
 | [] => by simp [Lib.index, Y45]
 | c :: l => by
  unfold Lib.index Y45
  by_cases e : c = 62
  ·subst e; simp [List.isPrefixOf]
  ·have e2 : ([62] : List UInt8).isPrefixOf (c :: l) = false := by
    simp only [List.isPrefixOf, Bool.and_true, beq_eq_false_iff_ne]; exact fun q => e q.symm
   rw [if_neg e, e2, Y6s l]
   cases Y45 l with
   | none => rfl
   | some x =>
    have : ((x.1.length : Int) == -1) = false := by rw [beq_eq_false_iff_ne]; omega
    simp [this]
theorem cut_gt (l : List UInt8) : Lib.cut l [62] = (match Y45 l with | some (t, r) => (t, r, true) | none => (l, [], false)) := by
 unfold Lib.cut
 rw [Y6s]
 cases h : Y45 l with
 | none => simp
 | some x =>
  obtain ⟨t, r⟩ := x
  obtain ⟨h1, _⟩ := Y30 h
  have : (0 : Int) ≤ (t.length : Int) := by omega
  simp only [this, if_true]
  rw [h1]
  simp
def Y3B (l : List UInt8) : Option (ByteArray × List UInt8) :=
 match skip l with
 | [] => none
 | c :: r => if c = 60 then
   match Y45 r with
   | none => none
   | some (t, l1) => if Y36 ⟨t.toArray⟩ then some (⟨t.toArray⟩, l1) else none
  else none
theorem Y4H {l : List UInt8} {t : ByteArray} {l1 : List UInt8} (h : Y3B l = some (t, l1)) : ∃ r, skip l = 60 :: r ∧ Y45 r = some (t.data.toList, l1) ∧ Y36 t = true := by
 unfold Y3B at h
 cases hk : skip l with
 | nil => rw [hk] at h; cases h
 | cons c r =>
  rw [hk] at h
  simp only at h
  by_cases e : c = 60
  ·rw [if_pos e] at h
   cases hu : Y45 r with
   | none => rw [hu] at h; cases h
   | some x =>
    rw [hu] at h
    simp only at h
    by_cases hi : Y36 ⟨x.1.toArray⟩ = true
    ·rw [if_pos hi] at h
     simp only [Option.some.injEq, Prod.mk.injEq] at h
     obtain ⟨rfl, rfl⟩ := h
     exact ⟨r, by rw [e], hu, hi⟩
    ·rw [if_neg hi] at h; cases h
  ·rw [if_neg e] at h; cases h
theorem Y6q {s : ByteArray} {r : List UInt8} (h : Suf s r) : (s.extract (ps s r).toNat s.size).data.toList = r := by
 obtain ⟨pre, h⟩ := h
 have hl := congrArg List.length h
 rw [Array.length_toList, List.length_append] at hl
 have e : s.size = s.data.size := rfl
 have hp : (ps s r).toNat = pre.length := by unfold ps; omega
 rw [hp, ByteArray.data_extract, Array.toList_extract, h]
 rw [List.extract_eq_take_drop]
 simp
 apply List.take_of_length_le
 omega
theorem Y52 {a b : ByteArray} (h : a.data.toList = b.data.toList) : a = b := by
 cases a; cases b
 congr
 exact Array.toList_inj.mp h
theorem Y3p (a : ByteArray) : a.data.toList.length = a.size := by rw [Array.length_toList]; rfl
theorem Y2U {s : ByteArray} (hs : s.size ≤ 100000000) (o : Int) {l : List UInt8} {t : ByteArray} {l1 : List UInt8} (h : Suf s l) (hi : Y3B l = some (t, l1)) :
  Ev (fun k => YR.f k s (ps s l) 0 o) (t, s, ps s l1, 0, o) ∧ Suf s l1 ∧ l1.length + 2 ≤ l.length := by
 obtain ⟨r, hk, hu, hb⟩ := Y4H hi
 have hq := h.skip
 have hle := Y3y l
 rw [hk] at hq hle
 obtain ⟨hr, hn⟩ := Y30 hu
 have hl1 : Suf s l1 := by have := hq.tail; rw [hr] at this; exact (this.app).tail
 refine ⟨?_, hl1, ?_⟩
 ·refine Ev.bind (by have := Y1R s hs o l h; rw [hk] at this; exact this) (Ev.congr (f := fun _ => _) (fun k => ?_) (Ev.now _))
  have hlen := hq.len
  have hrl := congrArg List.length hr
  rw [List.length_append, List.length_cons, Y3p] at hrl
  simp only [List.length_cons] at hlen
  have h60 : hd (60 :: r) = 60 := rfl
  show (if hd (60 :: r) = 60 then _ else _) = _
  rw [if_pos h60]
  simp only [Y1l hs hq]
  rw [if_pos hq.tail.ps0, if_pos (ps_le s r)]
  unfold strings_Cut.f
  have hx := Y6q hq.tail
  have hxs : (s.extract (ps s r).toNat s.size).size = r.length := by rw [← Y3p, hx]
  rw [if_pos (by unfold Y6v; rw [hxs]; exact decide_eq_true (by omega)), hx]
  have e62 : (⟨#[62]⟩ : ByteArray).data.toList = [62] := rfl
  rw [e62, cut_gt, hu]
  simp only [Option.bind_some, if_true]
  unfold Y18.f
  have et : (⟨t.data.toList.toArray⟩ : ByteArray) = t := Y52 (by simp)
  rw [et, if_pos Z1L, hb]
  simp only [Option.bind_some, if_true]
  have hw : wrap64 (ps s (60 :: r) + wrap64 ((t.size : Int) + 2)) = ps s l1 := by
   unfold ps wrap64
   simp only [List.length_cons]
   omega
  rw [hw]
 ·have := congrArg List.length hr
  rw [List.length_append] at this
  simp only [List.length_cons] at this hle
  omega
theorem Y4p {s : ByteArray} (hs : s.size ≤ 100000000) (o : Int) {l : List UInt8} (h : Suf s l) (hi : Y3B l = none) :
  Ev (fun k => YR.f k s (ps s l) 0 o) (⟨#[]⟩, s, ps s (skip l), 2, ps s (skip l)) := by
 have hq := h.skip
 refine Ev.bind (Y1R s hs o l h) (Ev.congr (f := fun _ => _) (fun k => ?_) (Ev.now _))
 show (if hd (skip l) = 60 then _ else _) = _
 by_cases e : hd (skip l) = 60
 ·rw [if_pos e]
  unfold Y3B at hi
  cases hk : skip l with
  | nil => rw [hk] at e; cases e
  | cons c r =>
   rw [hk] at hi e hq
   have ec : c = 60 := (Y6d (n := 60) (by omega)).mp e
   subst ec
   simp only [if_true] at hi
   have hlen := hq.len
   simp only [List.length_cons] at hlen
   simp only [Y1l hs hq]
   rw [if_pos hq.tail.ps0, if_pos (ps_le s r)]
   unfold strings_Cut.f
   have hx := Y6q hq.tail
   have hxs : (s.extract (ps s r).toNat s.size).size = r.length := by rw [← Y3p, hx]
   rw [if_pos (by unfold Y6v; rw [hxs]; exact decide_eq_true (by omega)), hx]
   have e62 : (⟨#[62]⟩ : ByteArray).data.toList = [62] := rfl
   rw [e62, cut_gt]
   cases hu : Y45 r with
   | none => simp [Y3k]
   | some x =>
    rw [hu] at hi
    simp only at hi
    obtain ⟨hr, _⟩ := Y30 (t := x.1) (r := x.2) hu
    have hrl := congrArg List.length hr
    rw [List.length_append, List.length_cons] at hrl
    have hb : Y36 ⟨x.1.toArray⟩ = false := by
     by_cases hb : Y36 ⟨x.1.toArray⟩ = true
     ·rw [if_pos hb] at hi; cases hi
     ·simpa using hb
    simp only [Option.bind_some, if_true]
    unfold Y18.f
    have z : (⟨x.1.toArray⟩ : ByteArray).size = x.1.length := by rw [← Y3p]
    rw [if_pos (by unfold Y4S; rw [z]; exact decide_eq_true (by omega)), hb]
    simp [Y3k]
 ·rw [if_neg e]
  simp [Y3k]
theorem Y3o (s : ByteArray) (hs : s.size ≤ 100000000) (o : Int) : ∀ l, Suf s l → Ev (fun k => Ye.f k s (ps s l) 0 o) (hd (skip l), s, ps s (skip l), 0, o)
 | [], h => by
  refine Ev.step (f := fun _ => _) (fun k => ?_) (Ev.now _)
  show Ye.l0 (k + 1) s (ps s []) 0 o = _
  simp only [Ye.l0, if_true]
  rw [Y32, if_neg (by omega), if_pos (by omega)]
  simp [skip, hd, Y32]
 | c :: l, h => by
  have b := Y4h h
  by_cases e : c = 32
  ·refine Ev.step (f := fun k => Ye.f k s (ps s l) 0 o) (fun k => ?_) ?_
   ·show Ye.l0 (k + 1) s (ps s (c :: l)) 0 o = Ye.l0 k s (ps s l) 0 o
    simp only [Ye.l0, if_true]
    rw [if_pos (Y2V s c l), if_pos h.ps0, b, if_pos (by rw [e]; rfl), Y1l hs h]
   ·have := Y3o s hs o l h.tail
    unfold skip; rw [if_pos e]; exact this
  ·refine Ev.step (f := fun _ => _) (fun k => ?_) (Ev.now _)
   show Ye.l0 (k + 1) s (ps s (c :: l)) 0 o = _
   simp only [Ye.l0, if_true]
   have hl := Y2V s c l
   rw [if_pos hl, if_pos h.ps0, b, if_neg (by intro e2; exact e ((Y6d (n := 32) (by omega)).mp e2)), if_neg (by omega)]
   unfold skip; rw [if_neg e]; rfl
theorem Y6b (s : ByteArray) (hs : s.size ≤ 100000000) (e o : Int) (he : e ≠ 0) : ∀ l, Suf s l → Ev (fun k => Ye.f k s (ps s l) e o) (0, s, ps s (skip l), e, o)
 | [], h => by
  refine Ev.step (f := fun _ => _) (fun k => ?_) (Ev.now _)
  show Ye.l0 (k + 1) s (ps s []) e o = _
  simp only [Ye.l0]
  rw [Y32, if_neg (by omega), if_neg he]
  simp [skip, Y32]
 | c :: l, h => by
  have b := Y4h h
  by_cases e2 : c = 32
  ·refine Ev.step (f := fun k => Ye.f k s (ps s l) e o) (fun k => ?_) ?_
   ·show Ye.l0 (k + 1) s (ps s (c :: l)) e o = Ye.l0 k s (ps s l) e o
    simp only [Ye.l0]
    rw [if_pos (Y2V s c l), if_pos h.ps0, b, if_pos (by rw [e2]; rfl), Y1l hs h]
   ·have := Y6b s hs e o he l h.tail
    unfold skip; rw [if_pos e2]; exact this
  ·refine Ev.step (f := fun _ => _) (fun k => ?_) (Ev.now _)
   show Ye.l0 (k + 1) s (ps s (c :: l)) e o = _
   simp only [Ye.l0]
   have hl := Y2V s c l
   rw [if_pos hl, if_pos h.ps0, b, if_neg (by intro q; exact e2 ((Y6d (n := 32) (by omega)).mp q)), if_neg he]
   unfold skip; rw [if_neg e2]
theorem Y2x {s : ByteArray} (hs : s.size ≤ 100000000) (o : Int) {l : List UInt8} {c : UInt8} {r : List UInt8} (h : Suf s l) (e : skip l = c :: r) (n : Int) (hn : n = (c.toNat : Int)) :
  Ev (fun k => Yn.f k s (ps s l) 0 o n) (true, s, ps s r, 0, o) := by
 have hq := h.skip
 rw [e] at hq
 have h1 := Y3o s hs o l h
 rw [e] at h1
 refine Ev.bind h1 (Ev.congr (fun k => ?_) (Ev.now _))
 show (if (c.toNat : Int) = n then _ else _) = _
 rw [if_pos hn.symm, Y1l hs hq]
theorem Y2S {s : ByteArray} (hs : s.size ≤ 100000000) (o : Int) {l : List UInt8} (h : Suf s l) (n : Int) (hn : hd (skip l) ≠ n) :
  Ev (fun k => Yn.f k s (ps s l) 0 o n) (false, s, ps s (skip l), 0, o) := by
 refine Ev.bind (Y3o s hs o l h) (Ev.congr (fun k => ?_) (Ev.now _))
 show (if hd (skip l) = n then _ else _) = _
 rw [if_neg hn]
theorem Y4R (s : ByteArray) (hs : s.size ≤ 100000000) (e o n : Int) (he : e ≠ 0) (hn : n ≠ 0) {l : List UInt8} (h : Suf s l) : Ev (fun k => Yn.f k s (ps s l) e o n) (false, s, ps s (skip l), e, o) := by
 refine Ev.bind (Y6b s hs e o he l h) (Ev.congr (fun k => ?_) (Ev.now _))
 show (if (0 : Int) = n then _ else _) = _
 rw [if_neg (fun q => hn q.symm)]
theorem Y4f (s : ByteArray) (a o b c : Int) : Yu.f s a 0 o b c = some (0, ⟨#[]⟩, [], [], s, a, c, b) := by
 unfold Yu.f; rw [if_pos rfl]
theorem fail_e (s : ByteArray) (a e o b c : Int) (he : e ≠ 0) : Yu.f s a e o b c = some (0, ⟨#[]⟩, [], [], s, a, e, o) := by
 unfold Yu.f; rw [if_neg he]
theorem Y1d : ∀ l, skip (skip l) = skip l
 | [] => rfl
 | c :: l => by
  by_cases e : c = 32
  ·have : skip (c :: l) = skip l := by conv => lhs; unfold skip; rw [if_pos e]
   rw [this]; exact Y1d l
  ·have : skip (c :: l) = c :: l := by conv => lhs; unfold skip; rw [if_neg e]
   rw [this, this]
theorem Y40 (s : ByteArray) (hs : s.size ≤ 100000000) (a e o : Int) : ∀ (r : List UInt8), Suf s r →
  (∀ t l1, Y45 r = some (t, l1) → ∀ x, Ev (fun k => Y3.j1 k (ps s (62 :: l1)) s a e o) x → Ev (fun k => Y3.l0 k (ps s r) s a e o) x) ∧
  (Y45 r = none → ∀ x, Ev (fun k => Y3.j1 k (ps s []) s a e o) x → Ev (fun k => Y3.l0 k (ps s r) s a e o) x)
 | [], h => by
  refine ⟨fun t l1 hu => by simp [Y45] at hu, fun _ x hx => ?_⟩
  refine Ev.step (fun k => ?_) hx
  simp only [Y3.l0]
  rw [if_neg (by rw [Y32]; omega)]
 | c :: r, h => by
  obtain ⟨ih1, ih2⟩ := Y40 s hs a e o r h.tail
  have b := Y4h h
  by_cases q : c = 62
  ·subst q
   refine ⟨fun t l1 hu x hx => ?_, fun hu => ?_⟩
   ·unfold Y45 at hu
    rw [if_pos rfl] at hu
    simp only [Option.some.injEq, Prod.mk.injEq] at hu
    obtain ⟨rfl, rfl⟩ := hu
    refine Ev.step (fun k => ?_) hx
    simp only [Y3.l0]
    rw [if_pos (Y2V s _ _), if_pos h.ps0, b, if_pos (show ((UInt8.toNat 62 : Nat) : Int) = 62 from rfl)]
   ·unfold Y45 at hu
    rw [if_pos rfl] at hu
    cases hu
  ·have st : ∀ k, Y3.l0 (k + 1) (ps s (c :: r)) s a e o = Y3.l0 k (ps s r) s a e o := by
    intro k
    simp only [Y3.l0]
    rw [if_pos (Y2V s _ _), if_pos h.ps0, b, if_neg (by intro w; exact q ((Y6d (n := 62) (by omega)).mp w)), Y1l hs h]
   refine ⟨fun t l1 hu x hx => ?_, fun hu x hx => ?_⟩
   ·unfold Y45 at hu
    rw [if_neg q] at hu
    cases hv : Y45 r with
    | none => rw [hv] at hu; cases hu
    | some y =>
     rw [hv] at hu
     simp only [Option.map_some, Option.some.injEq, Prod.mk.injEq] at hu
     obtain ⟨rfl, rfl⟩ := hu
     exact Ev.step st (ih1 y.1 y.2 hv x hx)
   ·unfold Y45 at hu
    rw [if_neg q] at hu
    exact Ev.step st (ih2 (by cases hv : Y45 r with | none => rfl | some y => rw [hv] at hu; cases hu) x hx)
theorem Y6r {s : ByteArray} {t l1 : List UInt8} {r : List UInt8} (h : Suf s r) (hr : r = t ++ l1) : (s.extract (ps s r).toNat (ps s l1).toNat) = ⟨t.toArray⟩ := by
 apply Y52
 obtain ⟨pre, h⟩ := h
 have hl := congrArg List.length h
 rw [Array.length_toList, List.length_append] at hl
 have e : s.size = s.data.size := rfl
 have hrl := congrArg List.length hr
 rw [List.length_append] at hrl
 have hp : (ps s r).toNat = pre.length := by unfold ps; omega
 have hp2 : (ps s l1).toNat = pre.length + t.length := by unfold ps; omega
 rw [hp, hp2, ByteArray.data_extract, Array.toList_extract, h, hr]
 rw [List.extract_eq_take_drop]
 simp
theorem ps_mono {s : ByteArray} {l m : List UInt8} (h : l.length ≤ m.length) : ps s m ≤ ps s l := by unfold ps; omega
theorem Y3w {s : ByteArray} (hs : s.size ≤ 100000000) (o : Int) {l : List UInt8} {t : ByteArray} {l1 : List UInt8} (h : Suf s l) (hi : Y3B l = some (t, l1)) :
  Ev (fun k => Y3.f k s (ps s l) 0 o) (t, s, ps s l1, 0, o) := by
 obtain ⟨r, hk, hu, hb⟩ := Y4H hi
 have hq := h.skip
 rw [hk] at hq
 obtain ⟨hr, hn⟩ := Y30 hu
 have hr2 : Suf s (62 :: l1) := by have := hq.tail; rw [hr] at this; exact this.app
 refine Ev.bind (by have := Y3o s hs o l h; rw [hk] at this; exact this) (Ev.congr (f := fun k => Y3.l0 k (ps s r) s (ps s (60 :: r)) 0 o) (fun k => ?_) ?_)
 ·have h60 : hd (60 :: r) = 60 := rfl
  show (if hd (60 :: r) = 60 then _ else _) = _
  rw [if_pos h60, Y1l hs hq]
 ·refine (Y40 s hs _ _ _ r hq.tail).1 _ _ hu _ (Ev.step (f := fun _ => _) (fun k => ?_) (Ev.now _))
  have hlen := hq.len
  have hrl := congrArg List.length hr
  rw [List.length_append, List.length_cons, Y3p] at hrl
  simp only [List.length_cons] at hlen
  simp only [Y3.j1]
  rw [if_neg (by have := Y2V s 62 l1; omega), Y1l hs hq, if_pos hq.tail.ps0, if_pos (ps_mono Z1K), if_pos (ps_le s _)]
  rw [Y6r hq.tail hr, Y1l hs hr2]
  have et : (⟨t.data.toList.toArray⟩ : ByteArray) = t := Y52 (by simp)
  rw [et]
  unfold YU.f
  rw [if_pos Z1L, hb]
  simp
theorem Y3v {s : ByteArray} (hs : s.size ≤ 100000000) (o : Int) {l : List UInt8} (h : Suf s l) (hi : Y3B l = none) :
  Ev (fun k => Y3.f k s (ps s l) 0 o) (⟨#[]⟩, s, ps s (skip l), 2, ps s (skip l)) := by
 have hq := h.skip
 by_cases e : hd (skip l) = 60
 ·unfold Y3B at hi
  cases hk : skip l with
  | nil => rw [hk] at e; cases e
  | cons c r =>
   rw [hk] at hi e hq
   have ec : c = 60 := (Y6d (n := 60) (by omega)).mp e
   subst ec
   simp only [if_true] at hi
   have hlen := hq.len
   simp only [List.length_cons] at hlen
   refine Ev.bind (by have := Y3o s hs o l h; rw [hk] at this; exact this) (Ev.congr (f := fun k => Y3.l0 k (ps s r) s (ps s (60 :: r)) 0 o) (fun k => ?_) ?_)
   ·have h60 : hd (60 :: r) = 60 := rfl
    show (if hd (60 :: r) = 60 then _ else _) = _
    rw [if_pos h60, Y1l hs hq]
   ·cases hu : Y45 r with
    | none =>
     refine (Y40 s hs _ _ _ r hq.tail).2 hu _ (Ev.step (f := fun _ => _) (fun k => ?_) (Ev.now _))
     simp only [Y3.j1]
     rw [if_pos (by rw [Y32]; omega)]
     simp [Y4f]
    | some x =>
     rw [hu] at hi
     simp only at hi
     obtain ⟨hr, _⟩ := Y30 (t := x.1) (r := x.2) hu
     have hrl := congrArg List.length hr
     rw [List.length_append, List.length_cons] at hrl
     have hb : Y36 ⟨x.1.toArray⟩ = false := by
      by_cases hb : Y36 ⟨x.1.toArray⟩ = true
      ·rw [if_pos hb] at hi; cases hi
      ·simpa using hb
     refine (Y40 s hs _ _ _ r hq.tail).1 x.1 x.2 hu _ (Ev.step (f := fun _ => _) (fun k => ?_) (Ev.now _))
     simp only [Y3.j1]
     rw [if_neg (by have := Y2V s 62 x.2; omega), Y1l hs hq, if_pos hq.tail.ps0, if_pos (ps_mono Z1K), if_pos (ps_le s _)]
     rw [Y6r hq.tail hr]
     unfold YU.f
     have z : (⟨x.1.toArray⟩ : ByteArray).size = x.1.length := by rw [← Y3p]
     rw [if_pos (by unfold Y4S; rw [z]; exact decide_eq_true (by omega)), hb]
     simp [Y4f]
 ·refine Ev.bind (Y3o s hs o l h) (Ev.congr (f := fun _ => _) (fun k => ?_) (Ev.now _))
  show (if hd (skip l) = 60 then _ else _) = _
  rw [if_neg e]
  simp [Y4f]
theorem Ev.up {α : Type} {g : Nat → Option α} {r : α} (h : Ev (fun k => g (k + 1)) r) : Ev g r := Ev.step (fun _ => rfl) h
inductive Res where
 | ok (p : S37) (l : List UInt8)
 | bad (c : Int) (l : List UInt8)
inductive NT where
 | path | pathL (p : S37) | seq | seqL (p : S37) | step | stepL (p : S37) | back | nt | notL (ts : List ByteArray)
def pK (k : Int) (l : List S37) : S37 := ⟨k, ⟨#[]⟩, [], l⟩
def pIri (t : ByteArray) : S37 := ⟨1, t, [], []⟩
def pNot (l : List ByteArray) : S37 := ⟨8, ⟨#[]⟩, l, []⟩
def signK (n : Int) : Int := if n = 42 then 5 else if n = 43 then 6 else 7
inductive P : NT → Nat → List UInt8 → Res → Prop
 | path_ok {d l p l1 res} : P .seq d l (.ok p l1) → P (.pathL p) d l1 res → P .path d l res
 | path_bad {d l c lb} : P .seq d l (.bad c lb) → P .path d l (.bad c lb)
 | pathL_more {d p l r q l1 res} : skip l = 124 :: r → P .seq d r (.ok q l1) → P (.pathL (pK 4 [p, q])) d l1 res → P (.pathL p) d l res
 | pathL_bad {d p l r c lb} : skip l = 124 :: r → P .seq d r (.bad c lb) → P (.pathL p) d l (.bad c lb)
 | pathL_end {d p l} : hd (skip l) ≠ 124 → P (.pathL p) d l (.ok p (skip l))
 | seq_ok {d l p l1 res} : P .step d l (.ok p l1) → P (.seqL p) d l1 res → P .seq d l res
 | seq_bad {d l c lb} : P .step d l (.bad c lb) → P .seq d l (.bad c lb)
 | seqL_more {d p l r q l1 res} : skip l = 47 :: r → P .step d r (.ok q l1) → P (.seqL (pK 3 [p, q])) d l1 res → P (.seqL p) d l res
 | seqL_bad {d p l r c lb} : skip l = 47 :: r → P .step d r (.bad c lb) → P (.seqL p) d l (.bad c lb)
 | seqL_end {d p l} : hd (skip l) ≠ 47 → P (.seqL p) d l (.ok p (skip l))
 | step_ok {d l p l1 res} : P .back d l (.ok p l1) → P (.stepL p) d l1 res → P .step d l res
 | step_bad {d l c lb} : P .back d l (.bad c lb) → P .step d l (.bad c lb)
 | stepL_more {d p l c r res} : skip l = c :: r → (c = 42 ∨ c = 43 ∨ c = 63) → P (.stepL (pK (signK c.toNat) [p])) d r res → P (.stepL p) d l res
 | stepL_end {d p l} : hd (skip l) ≠ 42 → hd (skip l) ≠ 43 → hd (skip l) ≠ 63 → P (.stepL p) d l (.ok p (skip l))
 | up_ok {d l r p l1} : skip l = 94 :: r → d < 5 → P .back (d + 1) r (.ok p l1) → P .back d l (.ok (pK 2 [p]) l1)
 | up_bad {d l r c lb} : skip l = 94 :: r → d < 5 → P .back (d + 1) r (.bad c lb) → P .back d l (.bad c lb)
 | full {d l c r} : skip l = c :: r → (c = 94 ∨ c = 40) → 5 ≤ d → P .back d l (.bad 3 (skip l))
 | iri_ok {d l r t l1} : skip l = 60 :: r → Y3B l = some (t, l1) → P .back d l (.ok (pIri t) l1)
 | iri_bad {d l r} : skip l = 60 :: r → Y3B l = none → P .back d l (.bad 2 (skip l))
 | not_ {d l r res} : skip l = 33 :: r → P .nt d r res → P .back d l res
 | br_ok {d l r p l1 r1} : skip l = 40 :: r → d < 5 → P .path (d + 1) r (.ok p l1) → skip l1 = 41 :: r1 → P .back d l (.ok p r1)
 | br_bad {d l r c lb} : skip l = 40 :: r → d < 5 → P .path (d + 1) r (.bad c lb) → P .back d l (.bad c lb)
 | br_open {d l r p l1} : skip l = 40 :: r → d < 5 → P .path (d + 1) r (.ok p l1) → hd (skip l1) ≠ 41 → P .back d l (.bad 2 (skip l1))
 | other {d l} : hd (skip l) ≠ 94 → hd (skip l) ≠ 60 → hd (skip l) ≠ 33 → hd (skip l) ≠ 40 → P .back d l (.bad 2 (skip l))
 | nt_one {d l t l1} : hd l ≠ 40 → Y3B l = some (t, l1) → P .nt d l (.ok (pNot [t]) l1)
 | nt_one_bad {d l} : hd l ≠ 40 → Y3B l = none → P .nt d l (.bad 2 (skip l))
 | nt_br {d r t l1 res} : Y3B r = some (t, l1) → P (.notL [t]) d l1 res → P .nt d (40 :: r) res
 | nt_br_bad {d r} : Y3B r = none → P .nt d (40 :: r) (.bad 2 (skip r))
 | notL_more {d ts l r t l1 res} : skip l = 124 :: r → Y3B r = some (t, l1) → P (.notL (ts ++ [t])) d l1 res → P (.notL ts) d l res
 | notL_bad {d ts l r} : skip l = 124 :: r → Y3B r = none → P (.notL ts) d l (.bad 2 (skip r))
 | notL_end {d ts l r} : skip l = 41 :: r → P (.notL ts) d l (.ok (pNot ts) r)
 | notL_open {d ts l} : hd (skip l) ≠ 124 → hd (skip l) ≠ 41 → P (.notL ts) d l (.bad 2 (skip l))
abbrev R8 := Int × ByteArray × List ByteArray × List S37 × ByteArray × Int × Int × Int
def RI (s : ByteArray) (o : Int) : Res → R8 → Prop
 | .ok p l, r => Suf s l ∧ r = (p.f0, p.f1, p.f2, p.f3, s, ps s l, 0, o)
 | .bad c l, r => c ≠ 0 ∧ Suf s l ∧ ∃ l' q0 q1 q2 q3, Suf s l' ∧ r = (q0, q1, q2, q3, s, ps s l', c, ps s l)
def fI (s : ByteArray) (o : Int) : NT → Nat → List UInt8 → Nat → Option R8
 | .path, d, l => fun k => Yq.f k s (ps s l) 0 o (d : Int)
 | .pathL p, d, l => fun k => Yq.l0 k (d : Int) s (ps s l) 0 o p.f0 p.f1 p.f2 p.f3
 | .seq, d, l => fun k => Yz.f k s (ps s l) 0 o (d : Int)
 | .seqL p, d, l => fun k => Yz.l0 k (d : Int) s (ps s l) 0 o p.f0 p.f1 p.f2 p.f3
 | .step, d, l => fun k => Yi.f k s (ps s l) 0 o (d : Int)
 | .stepL p, d, l => fun k => Yi.l0 k s (ps s l) 0 o p.f0 p.f1 p.f2 p.f3
 | .back, d, l => fun k => YH.f k s (ps s l) 0 o (d : Int)
 | .nt, d, l => fun k => Yk.f k s (ps s l) 0 o
 | .notL ts, d, l => fun k => Yk.l0 k s (ps s l) 0 o 8 ts
def fits (s : ByteArray) : NT → List UInt8 → Prop
 | .notL ts, l => ts.length + l.length ≤ s.size
 | _, _ => True
theorem Y3H {d : Nat} (h : d < 5) : wrap64 ((d : Int) + 1) = ((d + 1 : Nat) : Int) := by unfold wrap64; omega
theorem Y1H {s : ByteArray} {o : Int} {c : Int} {l : List UInt8} (hc : c ≠ 0) (h : Suf s l) {l' : List UInt8} (h' : Suf s l') (q0 : Int) (q1 : ByteArray) (q2 : List ByteArray) (q3 : List S37) :
  RI s o (.bad c l) (q0, q1, q2, q3, s, ps s l', c, ps s l) := ⟨hc, h, l', q0, q1, q2, q3, h', rfl⟩
theorem pathL_e (s : ByteArray) (d a e o : Int) (he : e ≠ 0) (q0 : Int) (q1 : ByteArray) (q2 : List ByteArray) (q3 : List S37) :
  Ev (fun k => Yq.l0 k d s a e o q0 q1 q2 q3) (q0, q1, q2, q3, s, a, e, o) := by
 refine Ev.up ?_
 simp only [Yq.l0]
 exact Z29
theorem seqL_e (s : ByteArray) (d a e o : Int) (he : e ≠ 0) (q0 : Int) (q1 : ByteArray) (q2 : List ByteArray) (q3 : List S37) :
  Ev (fun k => Yz.l0 k d s a e o q0 q1 q2 q3) (q0, q1, q2, q3, s, a, e, o) := by
 refine Ev.up ?_
 simp only [Yz.l0]
 exact Z29
theorem stepL_e (s : ByteArray) (a e o : Int) (he : e ≠ 0) (q0 : Int) (q1 : ByteArray) (q2 : List ByteArray) (q3 : List S37) :
  Ev (fun k => Yi.l0 k s a e o q0 q1 q2 q3) (q0, q1, q2, q3, s, a, e, o) := by
 refine Ev.up ?_
 simp only [Yi.l0]
 exact Ev.bind (next_e s a e o he) (Ev.congr (fun k => by simp) (Ev.now _))
theorem notL_e (s : ByteArray) (a e o : Int) (he : e ≠ 0) (q0 : Int) (ts : List ByteArray) :
  Ev (fun k => Yk.l0 k s a e o q0 ts) (q0, ⟨#[]⟩, ts, [], s, a, e, o) := by
 refine Ev.up ?_
 simp only [Yk.l0]
 refine Ev.bind (is_e s a e o _ he (by decide)) ?_
 simp only [Bool.false_eq_true, if_false]
 exact Ev.bind (must_e s a e o _ he (by decide)) (Ev.congr (fun k => by simp) (Ev.now _))
end Go.Proofs.YtbpbfboaofkpaaaDoor.Print
end
