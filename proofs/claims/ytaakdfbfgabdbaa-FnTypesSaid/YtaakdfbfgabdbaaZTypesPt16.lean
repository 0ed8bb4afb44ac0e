/- Printed by a program of this session: what functions of the translation come to, each contract as it stands. No condition. -/
import Derived.Test.YtaakdfbfgabdbaaZTypesSh
import Derived.Test.YtaakdfbfgabdbaaZTypesExtM
import Derived.Test.YtaakdfbfgabdbaaZTypesPt2
import Derived.Test.YtaakdfbfgabdbaaZTypesPt5
import Derived.Test.YtaakdfbfgabdbaaZTypesPt6M
import Derived.Test.YtaakdfbfgabdbaaZTypesPt10M
namespace Go.Proofs.Ytaakdfbfgabdbaa.Pt
set_option maxHeartbeats 8000000
set_option maxRecDepth 100000
open Go.RowKit Go.Proofs.Ytaakdfbfgabdbaa.Ext Go.Proofs.YtaakdfbfgabdbaaW.PrintWords Go.Proofs.YtaakdfbfgabdbaaW.PrintLast Go.Proofs.YtaakdfbfgabdbaaW.PrintMore
attribute [local go_sem] max2_int min2_int max_two min_two max_three min_three max_four min_four   -- for this text's walks alone
set_option linter.unusedVariables false
set_option linter.unusedSimpArgs false

/-! ### spec_DrawEqualType: function 17 -/
def spec_DrawEqualType.f (k : Nat) (l0 : List Int) : Option (Int × List ByteArray × (List (S27)) × Int × List ByteArray × (List (S27))) := (spec_l1New.f k l0).bind fun bt523 => ((spec_l3Bent.f k bt523.1 bt523.2.1 bt523.2.2).bind fun bt527 => ((spec_l1Once.f bt523.1 bt527.2.2.2.1 bt527.2.2.2.2 2).bind fun bt537 => (if bt537.1 = true then ((spec_l3Copy.f k bt527.1 bt527.2.1 bt527.2.2.1).bind fun bt540 => (some (bt527.1, bt527.2.1, bt527.2.2.1, bt540.1, bt540.2.1, bt540.2.2))) else ((spec_l3Bent.f k bt523.1 bt537.2.1 bt537.2.2).bind fun bt547 => (some (bt527.1, bt527.2.1, bt527.2.2.1, bt547.1, bt547.2.1, bt547.2.2.1))))))
theorem spec_DrawEqualType.calls (k : Nat) (A0 : Option Addr) (c0 : Nat) (l0 : List Int) (r1 : Int) (r2 : List ByteArray) (r3 : List (S27)) (r4 : Int) (r5 : List ByteArray) (r6 : List (S27)) (w : World) (hr0 : Kd.C (Kd.int .u8) w A0 l0.length l0) (hc0 : l0.length ≤ c0) (h : spec_DrawEqualType.f k l0 = some (r1, r2, r3, r4, r5, r6)) :
  Calls Try.prog 17 #[.slice A0 l0.length c0] w fun e w' => ∃ v1_ v2_ v4_ v5_ : Value, e = .returned (.tuple #[.agg #[.int .i64 r1, v1_, v2_], .agg #[.int .i64 r4, v4_, v5_]]) ∧ Kd.R Kd.string 9 w' w.heap.size (fun k_ => (w.heap.size ≤ k_) ∧ some k_ ≠ (v4_ : Value).ownBlock) v1_ r2 ∧ Kd.N k27 27 w' w.heap.size (fun k_ => (w.heap.size ≤ k_) ∧ some k_ ≠ (v1_ : Value).ownBlock ∧ some k_ ≠ (v4_ : Value).ownBlock ∧ some k_ ≠ (v5_ : Value).ownBlock) v2_ r3 ∧ Kd.R Kd.string 9 w' w.heap.size (fun k_ => (w.heap.size ≤ k_) ∧ some k_ ≠ (v1_ : Value).ownBlock) v4_ r5 ∧ Kd.N k27 27 w' w.heap.size (fun k_ => (w.heap.size ≤ k_) ∧ some k_ ≠ (v1_ : Value).ownBlock ∧ some k_ ≠ (v2_ : Value).ownBlock ∧ some k_ ≠ (v4_ : Value).ownBlock) v5_ r6 ∧ Below w.heap.size w w' := by
 have hu27 := Try.underlying27
 have HR0 := Aside0.mk hr0
 have HC0 := Aside0.mk hc0
 clear hr0 hc0
 have HB := Aside0.mk (Below.refl w.heap.size w)
 have H : ((spec_l1New.f k l0).bind fun bt523 => ((spec_l3Bent.f k bt523.1 bt523.2.1 bt523.2.2).bind fun bt527 => ((spec_l1Once.f bt523.1 bt527.2.2.2.1 bt527.2.2.2.2 2).bind fun bt537 => (if bt537.1 = true then ((spec_l3Copy.f k bt527.1 bt527.2.1 bt527.2.2.1).bind fun bt540 => (some (bt527.1, bt527.2.1, bt527.2.2.1, bt540.1, bt540.2.1, bt540.2.2))) else ((spec_l3Bent.f k bt523.1 bt537.2.1 bt537.2.2).bind fun bt547 => (some (bt527.1, bt527.2.1, bt527.2.2.1, bt547.1, bt547.2.1, bt547.2.2.1))))))) = some (r1, r2, r3, r4, r5, r6) := h
 clear h
 replace H := Option.bind_eq_some_iff.mp H
 obtain ⟨⟨t523, t524, t525⟩, A20, H⟩ := H
 replace H : ((spec_l3Bent.f k t523 t524 t525).bind fun bt527 => ((spec_l1Once.f t523 bt527.2.2.2.1 bt527.2.2.2.2 2).bind fun bt537 => (if bt537.1 = true then ((spec_l3Copy.f k bt527.1 bt527.2.1 bt527.2.2.1).bind fun bt540 => (some (bt527.1, bt527.2.1, bt527.2.2.1, bt540.1, bt540.2.1, bt540.2.2))) else ((spec_l3Bent.f k t523 bt537.2.1 bt537.2.2).bind fun bt547 => (some (bt527.1, bt527.2.1, bt527.2.2.1, bt547.1, bt547.2.1, bt547.2.2.1)))))) = some (r1, r2, r3, r4, r5, r6) := H
 have A2 := Aside0.mk A20
 clear A20
 replace H := Option.bind_eq_some_iff.mp H
 obtain ⟨⟨t527, t528, t531, t534, t535⟩, A30, H⟩ := H
 replace H : ((spec_l1Once.f t523 t534 t535 2).bind fun bt537 => (if bt537.1 = true then ((spec_l3Copy.f k t527 t528 t531).bind fun bt540 => (some (t527, t528, t531, bt540.1, bt540.2.1, bt540.2.2))) else ((spec_l3Bent.f k t523 bt537.2.1 bt537.2.2).bind fun bt547 => (some (t527, t528, t531, bt547.1, bt547.2.1, bt547.2.2.1))))) = some (r1, r2, r3, r4, r5, r6) := H
 have A3 := Aside0.mk A30
 clear A30
 replace H := Option.bind_eq_some_iff.mp H
 obtain ⟨⟨t537, t538, t539⟩, A40, H⟩ := H
 replace H : (if t537 = true then ((spec_l3Copy.f k t527 t528 t531).bind fun bt540 => (some (t527, t528, t531, bt540.1, bt540.2.1, bt540.2.2))) else ((spec_l3Bent.f k t523 t538 t539).bind fun bt547 => (some (t527, t528, t531, bt547.1, bt547.2.1, bt547.2.2.1)))) = some (r1, r2, r3, r4, r5, r6) := H
 have A4 := Aside0.mk A40
 clear A40
 have HC5 := Aside0.mk H
 clear H
 go_enter Try.func17, Try.ntmps17
 go_upto_if 11 with (first | ((with_reducible refine gate_dst (N := 2) rfl ?_); refine box_event ?hg (N := 2) ?hd (cs := #[.int .i64 0, .slice none 0 0, .slice none 0 0]) (t := 27) ?hr ?_; (case hd => rfl); (case hg => rfl); (case hr => exact hrw); intro gb521 hg w6 hbox hb; have n0_ := Aside0.mk (below_step blw hb); have n1_ := Aside0.mk (hbox); have n2_ := Aside0.mk ((by rw [hg]; exact (below_size blw) : w.heap.size ≤ gb521)); have n3_ := n2_; clear HB; revert n0_ n1_ n2_ n3_; intro HB BK521 GW521 GE521; clear hb hbox hg) | ((with_reducible refine gate_dst (N := 3) rfl ?_); refine box_event ?hg (N := 3) ?hd (cs := #[.int .i64 0, .slice none 0 0, .slice none 0 0]) (t := 27) ?hr ?_; (case hd => rfl); (case hg => rfl); (case hr => exact hrw); intro gb522 hg w7 hbox hb; have n0_ := Aside0.mk (blk_below (g := gb521) (o := .cells #[.int .i64 0, .slice none 0 0, .slice none 0 0] 27 (0, 0)) bkw hb); have n1_ := Aside0.mk (below_step blw hb); have n2_ := Aside0.mk (hbox); have n3_ := Aside0.mk ((by rw [hg]; exact (below_size blw) : w.heap.size ≤ gb522)); have n4_ := n3_; have n5_ := Aside0.mk ((by rw [hg]; exact Nat.ne_of_lt (blk_lt (g := gb521) (o := .cells #[.int .i64 0, .slice none 0 0, .slice none 0 0] 27 (0, 0)) bkw) : gb521 ≠ gb522)); have n6_ := Aside0.mk ((by rw [hg]; exact Nat.ne_of_gt (blk_lt (g := gb521) (o := .cells #[.int .i64 0, .slice none 0 0, .slice none 0 0] 27 (0, 0)) bkw) : gb522 ≠ gb521)); clear BK521; clear HB; revert n0_ n1_ n2_ n3_ n4_ n5_ n6_; intro BK521 HB BK522 GW522 GE522 NB521_522 NB522_521; clear hb hbox hg) | ((with_reducible refine gate_callee (f := 23) rfl ?_); refine goesL_ (some 7) rfl rfl Try.func23 kr rfl #[.slice A0 l0.length c0] rfl mpw ?_; (with_reducible refine (spec_l1New.calls k _ _ l0 t523 t524 t525 w _ ?side1 ?side2 ?side3 A2.out).mono ?_); (case side1 => repeat (first | (with_reducible first | exact HB.out | apply below_alloc | apply pw_below_drewN | apply below_drew1 | refine below_set ?_ GE521.out | refine below_set ?_ GE522.out) | exact HB.out)); (case side2 => exact HR0.out); (case side3 => exact HC0.out); rintro e w8 ⟨g526, rfl, hi, hb, hb2⟩; refine ⟨_, rfl, ?_⟩; have n0_ := Aside0.mk (blk_below (g := gb521) (o := .cells #[.int .i64 0, .slice none 0 0, .slice none 0 0] 27 (0, 0)) bkw hb2); have n1_ := Aside0.mk (blk_below (g := gb522) (o := .cells #[.int .i64 0, .slice none 0 0, .slice none 0 0] 27 (0, 0)) bkw hb2); have n2_ := Aside0.mk (hb); have n3_ := Aside0.mk (hi); have n4_ := Aside0.mk (IsS58.ne_blk hi (blk_below (g := gb521) (o := .cells #[.int .i64 0, .slice none 0 0, .slice none 0 0] 27 (0, 0)) bkw hb2) (by decide)); have n5_ := Aside0.mk (Ne.symm (IsS58.ne_blk hi (blk_below (g := gb521) (o := .cells #[.int .i64 0, .slice none 0 0, .slice none 0 0] 27 (0, 0)) bkw hb2) (by decide))); have n6_ := Aside0.mk (IsS58.ne_blk hi (blk_below (g := gb522) (o := .cells #[.int .i64 0, .slice none 0 0, .slice none 0 0] 27 (0, 0)) bkw hb2) (by decide)); have n7_ := Aside0.mk (Ne.symm (IsS58.ne_blk hi (blk_below (g := gb522) (o := .cells #[.int .i64 0, .slice none 0 0, .slice none 0 0] 27 (0, 0)) bkw hb2) (by decide))); clear BK521; clear BK522; clear HB; revert n0_ n1_ n2_ n3_ n4_ n5_ n6_ n7_; intro BK521 BK522 HB HI526 NB526_521 NB521_526 NB526_522 NB522_526; (try clear hb); (try clear hb2); (try clear hk); (try clear hi)) | ((with_reducible refine gate_callee (f := 22) rfl ?_); refine goesL_ (some 9) rfl rfl Try.func22 kr rfl #[.pointer (some ⟨g526, 0, none⟩)] rfl mpw ?_; (with_reducible refine (spec_l3Bent.calls k g526 t523 t524 t525 t527 t528 t531 t534 t535 w _ ?side1 ?side2 A3.out).mono ?_); (case side1 => repeat (first | (with_reducible first | exact HI526.out | apply IsS58.alloc | apply IsS58.drewN | apply IsS58.drew | apply IsS58.set_1 | apply IsS58.set_2 | refine IsS58.far ?_ NB526_521.out _ | refine IsS58.far ?_ NB526_522.out _) | exact HI526.out)); (case side2 => repeat (first | (with_reducible first | exact HB.out | apply below_alloc | apply pw_below_drewN | apply below_drew1 | refine below_set ?_ (IsS58.ge HI526.out) | refine below_set ?_ GE521.out | refine below_set ?_ GE522.out) | exact HB.out)); rintro e w9 ⟨v529, v532, rfl, ho0, ho1, hi, hb, hk⟩; refine ⟨_, rfl, ?_⟩; have n0_ := Aside0.mk (KeepBut.blk hk (g' := gb521) (o := .cells #[.int .i64 0, .slice none 0 0, .slice none 0 0] 27 (0, 0)) bkw NB521_526.out (by simp)); have n1_ := Aside0.mk (KeepBut.blk hk (g' := gb522) (o := .cells #[.int .i64 0, .slice none 0 0, .slice none 0 0] 27 (0, 0)) bkw NB522_526.out (by simp)); have n2_ := Aside0.mk (Kd.R_lower (Kd.R_newM (M := fun k_ => (w.heap.size ≤ k_)) (Kd.R_mono (ok' := fun k_ => True) ho0 (fun _ hk_ => trivial)) (below_size (by repeat (first | (with_reducible first | exact HB.out | apply below_alloc | apply pw_below_drewN | apply below_drew1 | refine below_set ?_ (IsS58.ge HI526.out) | refine below_set ?_ GE521.out | refine below_set ?_ GE522.out) | exact HB.out))) (fun k_ h_ => h_)) (below_size (by repeat (first | (with_reducible first | exact HB.out | apply below_alloc | apply pw_below_drewN | apply below_drew1 | refine below_set ?_ (IsS58.ge HI526.out) | refine below_set ?_ GE521.out | refine below_set ?_ GE522.out) | exact HB.out)))); have n3_ := Aside0.mk (Kd.N_lower (Kd.N_mono (ok' := fun k_ => (w.heap.size ≤ k_) ∧ some k_ ≠ (v529 : Value).ownBlock ∧ k_ ≠ gb521 ∧ k_ ≠ gb522 ∧ k_ ≠ g526) ho1 (fun k_ hk_ => ⟨(Nat.le_trans (below_size (by repeat (first | (with_reducible first | exact HB.out | apply below_alloc | apply pw_below_drewN | apply below_drew1 | refine below_set ?_ (IsS58.ge HI526.out) | refine below_set ?_ GE521.out | refine below_set ?_ GE522.out) | exact HB.out))) hk_.1), hk_.2, (Kd.freshB (g := gb521) (o := .cells #[.int .i64 0, .slice none 0 0, .slice none 0 0] 27 (0, 0)) bkw k_ hk_.1), (Kd.freshB (g := gb522) (o := .cells #[.int .i64 0, .slice none 0 0, .slice none 0 0] 27 (0, 0)) bkw k_ hk_.1), (IsS58.fresh (by repeat (first | (with_reducible first | exact HI526.out | apply IsS58.alloc | apply IsS58.drewN | apply IsS58.drew | apply IsS58.set_1 | apply IsS58.set_2 | refine IsS58.far ?_ NB526_521.out _ | refine IsS58.far ?_ NB526_522.out _) | exact HI526.out)) k_ hk_.1)⟩)) (below_size (by repeat (first | (with_reducible first | exact HB.out | apply below_alloc | apply pw_below_drewN | apply below_drew1 | refine below_set ?_ (IsS58.ge HI526.out) | refine below_set ?_ GE521.out | refine below_set ?_ GE522.out) | exact HB.out)))); have n4_ := Aside0.mk (hb); have n5_ := Aside0.mk (hi); clear BK521; clear BK522; clear HB; clear HI526; revert n0_ n1_ n2_ n3_ n4_ n5_; intro BK521 BK522 HO530 HO533 HB HI526; (try clear hb); (try clear hb2); (try clear hk); (try clear hi); (try clear ho0); (try clear ho1)) | ((with_reducible refine gate_dst (N := 5) rfl ?_); refine box_event ?hg (N := 5) ?hd (cs := #[.int .i64 0, .slice none 0 0, .slice none 0 0]) (t := 27) ?hr ?_; (case hd => rfl); (case hg => rfl); (case hr => exact hrw); intro gb536 hg w10 hbox hb; have n0_ := Aside0.mk (Kd.R_below (by (with_reducible repeat (first | apply Kd.R_alloc | apply Kd.R_drewN | apply Kd.R_drew)); exact HO530.out) hb); have n1_ := Aside0.mk (Kd.N_below (Kd.N_elderB (by (with_reducible repeat (first | apply Kd.N_alloc | apply Kd.N_drewN | apply Kd.N_drew)); exact HO533.out) gb536 (Nat.le_of_eq hg.symm)) hb); have n2_ := Aside0.mk (blk_below (g := gb521) (o := .cells #[.int .i64 0, .slice none 0 0, .slice none 0 0] 27 (0, 0)) bkw hb); have n3_ := Aside0.mk (blk_below (g := gb522) (o := .cells #[.int .i64 0, .slice none 0 0, .slice none 0 0] 27 (0, 0)) bkw hb); have n4_ := Aside0.mk (IsS58.below (by repeat (first | (with_reducible first | exact HI526.out | apply IsS58.alloc | apply IsS58.drewN | apply IsS58.drew | apply IsS58.set_1 | apply IsS58.set_2 | refine IsS58.far ?_ NB526_521.out _ | refine IsS58.far ?_ NB526_522.out _) | exact HI526.out)) hb); have n5_ := Aside0.mk (below_step (by repeat (first | (with_reducible first | exact HB.out | apply below_alloc | apply pw_below_drewN | apply below_drew1 | refine below_set ?_ (IsS58.ge HI526.out) | refine below_set ?_ GE521.out | refine below_set ?_ GE522.out) | exact HB.out)) hb); have n6_ := Aside0.mk (hbox); have n7_ := Aside0.mk ((by rw [hg]; exact (below_size (by repeat (first | (with_reducible first | exact HB.out | apply below_alloc | apply pw_below_drewN | apply below_drew1 | refine below_set ?_ (IsS58.ge HI526.out) | refine below_set ?_ GE521.out | refine below_set ?_ GE522.out) | exact HB.out))) : w.heap.size ≤ gb536)); have n8_ := n7_; have n9_ := Aside0.mk ((by rw [hg]; exact Nat.ne_of_lt (blk_lt (g := gb521) (o := .cells #[.int .i64 0, .slice none 0 0, .slice none 0 0] 27 (0, 0)) bkw) : gb521 ≠ gb536)); have n10_ := Aside0.mk ((by rw [hg]; exact Nat.ne_of_gt (blk_lt (g := gb521) (o := .cells #[.int .i64 0, .slice none 0 0, .slice none 0 0] 27 (0, 0)) bkw) : gb536 ≠ gb521)); have n11_ := Aside0.mk ((by rw [hg]; exact Nat.ne_of_lt (blk_lt (g := gb522) (o := .cells #[.int .i64 0, .slice none 0 0, .slice none 0 0] 27 (0, 0)) bkw) : gb522 ≠ gb536)); have n12_ := Aside0.mk ((by rw [hg]; exact Nat.ne_of_gt (blk_lt (g := gb522) (o := .cells #[.int .i64 0, .slice none 0 0, .slice none 0 0] 27 (0, 0)) bkw) : gb536 ≠ gb522)); have n13_ := Aside0.mk ((by rw [hg]; exact Nat.ne_of_lt (IsS58.lt (show IsS58 w _ g526 t523 t534 t535 from by repeat (first | (with_reducible first | exact HI526.out | apply IsS58.alloc | apply IsS58.drewN | apply IsS58.drew | apply IsS58.set_1 | apply IsS58.set_2 | refine IsS58.far ?_ NB526_521.out _ | refine IsS58.far ?_ NB526_522.out _) | exact HI526.out))) : g526 ≠ gb536)); have n14_ := Aside0.mk ((by rw [hg]; exact Nat.ne_of_gt (IsS58.lt (show IsS58 w _ g526 t523 t534 t535 from by repeat (first | (with_reducible first | exact HI526.out | apply IsS58.alloc | apply IsS58.drewN | apply IsS58.drew | apply IsS58.set_1 | apply IsS58.set_2 | refine IsS58.far ?_ NB526_521.out _ | refine IsS58.far ?_ NB526_522.out _) | exact HI526.out))) : gb536 ≠ g526)); clear HO530; clear HO533; clear BK521; clear BK522; clear HI526; clear HB; revert n0_ n1_ n2_ n3_ n4_ n5_ n6_ n7_ n8_ n9_ n10_ n11_ n12_ n13_ n14_; intro HO530 HO533 BK521 BK522 HI526 HB BK536 GW536 GE536 NB521_536 NB536_521 NB522_536 NB536_522 NB526_536 NB536_526; clear hb hbox hg; have hnb11 := NB536_521.out; have hnc11 := NB521_536.out; have hnb12 := NB536_522.out; have hnc12 := NB522_536.out; have hnb13 := NB536_526.out; have hnc13 := NB526_536.out; obtain ⟨hcz14_0, hcz14_1, hcz14_2⟩ := cls3 BK536.out; obtain ⟨hfz14_0, hfz14_1, hfz14_2⟩ := frz3 BK536.out; obtain ⟨Ao15, co15, eo15⟩ := Kd.R_slice HO530.out; subst eo15; obtain ⟨Ao16, co16, eo16⟩ := Kd.N_slice HO533.out; subst eo16) | ((with_reducible refine gate_callee (f := 29) rfl ?_); refine goesL_ (some 11) rfl rfl Try.func29 kr rfl #[.pointer (some ⟨g526, 0, none⟩), .int .i64 2] rfl mpw ?_; (with_reducible refine (spec_l1Once.calls g526 t523 t534 t535 2 t537 t538 t539 w _ ?side1 ?side2 A4.out).mono ?_); (case side1 => repeat (first | (with_reducible first | exact HI526.out | apply IsS58.alloc | apply IsS58.drewN | apply IsS58.drew | apply IsS58.set_1 | apply IsS58.set_2 | refine IsS58.far ?_ NB526_521.out _ | refine IsS58.far ?_ NB526_522.out _ | refine IsS58.far ?_ NB526_536.out _) | exact HI526.out)); (case side2 => repeat (first | (with_reducible first | exact HB.out | apply below_alloc | apply pw_below_drewN | apply below_drew1 | refine below_set ?_ (IsS58.ge HI526.out) | refine below_set ?_ GE521.out | refine below_set ?_ GE522.out | refine below_set ?_ GE536.out) | exact HB.out)); rintro e w17 ⟨rfl, hi, hb, hk⟩; refine ⟨_, rfl, ?_⟩; have n0_ := Aside0.mk (KeepBut.blk hk (g' := gb521) (o := .cells #[.int .i64 0, .slice none 0 0, .slice none 0 0] 27 (0, 0)) (by (with_reducible repeat (first | refine blk_drewN ?_ _ | refine blk_drew ?_ | refine blk_alloc ?_ _)); refine blk_far ?_ NB521_536.out _; (with_reducible repeat (first | refine blk_drewN ?_ _ | refine blk_drew ?_ | refine blk_alloc ?_ _)); refine blk_far ?_ NB521_536.out _; (with_reducible repeat (first | refine blk_drewN ?_ _ | refine blk_drew ?_ | refine blk_alloc ?_ _)); refine blk_far ?_ NB521_536.out _; (with_reducible repeat (first | refine blk_drewN ?_ _ | refine blk_drew ?_ | refine blk_alloc ?_ _)); exact BK521.out) NB521_526.out (by simp)); have n1_ := Aside0.mk (KeepBut.blk hk (g' := gb522) (o := .cells #[.int .i64 0, .slice none 0 0, .slice none 0 0] 27 (0, 0)) (by (with_reducible repeat (first | refine blk_drewN ?_ _ | refine blk_drew ?_ | refine blk_alloc ?_ _)); refine blk_far ?_ NB522_536.out _; (with_reducible repeat (first | refine blk_drewN ?_ _ | refine blk_drew ?_ | refine blk_alloc ?_ _)); refine blk_far ?_ NB522_536.out _; (with_reducible repeat (first | refine blk_drewN ?_ _ | refine blk_drew ?_ | refine blk_alloc ?_ _)); refine blk_far ?_ NB522_536.out _; (with_reducible repeat (first | refine blk_drewN ?_ _ | refine blk_drew ?_ | refine blk_alloc ?_ _)); exact BK522.out) NB522_526.out (by simp)); have n2_ := Aside0.mk (Kd.R_mono (Kd.R_keep (IsS58.apart (show IsS58 w _ g526 t523 t534 t535 from by repeat (first | (with_reducible first | exact HI526.out | apply IsS58.alloc | apply IsS58.drewN | apply IsS58.drew | apply IsS58.set_1 | apply IsS58.set_2 | refine IsS58.far ?_ NB526_521.out _ | refine IsS58.far ?_ NB526_522.out _ | refine IsS58.far ?_ NB526_536.out _) | exact HI526.out)) (by (with_reducible repeat (first | apply Kd.R_alloc | apply Kd.R_drewN | apply Kd.R_drew)); exact (Kd.R_mono (Kd.R_far (p := ⟨gb536, 2, none⟩) (Kd.R_far (p := ⟨gb536, 1, none⟩) (Kd.R_far (p := ⟨gb536, 0, none⟩) (Kd.R_types HO530.out BK536.out (by decide)) (fun _ hk => hk.2) (.int .i64 t527)) (fun _ hk => hk.2) (.slice Ao15 t528.length co15)) (fun _ hk => hk.2) (.slice Ao16 t531.length co16)) (fun _ h_ => h_.1))) (by decide)) hk (fun _ h => h.2)) (fun _ h => h.1)); have n3_ := Aside0.mk (Kd.N_mono (Kd.N_keep (Kd.N_mono (ok := fun k_ => ((((w.heap.size ≤ k_)) ∧ (some k_ ≠ (.slice Ao15 t528.length co15 : Value).ownBlock ∧ (k_ ≠ gb521 ∧ (k_ ≠ gb522 ∧ k_ ≠ g526)))) ∧ k_ ≠ gb536)) (by (with_reducible repeat (first | apply Kd.N_alloc | apply Kd.N_drewN | apply Kd.N_drew)); exact (Kd.N_mono (Kd.N_far (p := ⟨gb536, 2, none⟩) (Kd.N_far (p := ⟨gb536, 1, none⟩) (Kd.N_far (p := ⟨gb536, 0, none⟩) (Kd.N_mono HO533.out (fun k_ hk => (⟨hk, hk.2⟩ : _ ∧ k_ ≠ gb536))) (fun _ hk => hk.2) (.int .i64 t527)) (fun _ hk => hk.2) (.slice Ao15 t528.length co15)) (fun _ hk => hk.2) (.slice Ao16 t531.length co16)) (fun _ h_ => h_.1))) (fun k_ hk_ => (⟨hk_, hk_.1.2.2.2.2⟩ : _ ∧ k_ ≠ g526))) hk (fun _ h => h.2)) (fun _ h => h.1)); have n4_ := Aside0.mk (KeepBut.blk hk (g' := gb536) (o := .cells #[.int .i64 t527, .slice Ao15 t528.length co15, .slice Ao16 t531.length co16] 27 (0, 0)) (by (with_reducible repeat (first | refine blk_drewN ?_ _ | refine blk_drew ?_ | refine blk_alloc ?_ _)); refine blk_put (cs := #[.int .i64 t527, .slice Ao15 t528.length co15, .slice none 0 0]) ?_ 2 _ rfl; (with_reducible repeat (first | refine blk_drewN ?_ _ | refine blk_drew ?_ | refine blk_alloc ?_ _)); refine blk_put (cs := #[.int .i64 t527, .slice none 0 0, .slice none 0 0]) ?_ 1 _ rfl; (with_reducible repeat (first | refine blk_drewN ?_ _ | refine blk_drew ?_ | refine blk_alloc ?_ _)); refine blk_put (cs := #[.int .i64 0, .slice none 0 0, .slice none 0 0]) ?_ 0 _ rfl; (with_reducible repeat (first | refine blk_drewN ?_ _ | refine blk_drew ?_ | refine blk_alloc ?_ _)); exact BK536.out) NB536_526.out (by simp)); have n5_ := Aside0.mk (hb); have n6_ := Aside0.mk (hi); clear BK521; clear BK522; clear HO530; clear HO533; clear BK536; clear HB; clear HI526; revert n0_ n1_ n2_ n3_ n4_ n5_ n6_; intro BK521 BK522 HO530 HO533 BK536 HB HI526; (try clear hb); (try clear hb2); (try clear hk); (try clear hi)))
 have H := HC5.out
 clear HC5
 by_cases c18 : t537 = true
 ·subst c18
  have H1 : ((spec_l3Copy.f k t527 t528 t531).bind fun bt540 => (some (t527, t528, t531, bt540.1, bt540.2.1, bt540.2.2))) = some (r1, r2, r3, r4, r5, r6) := by rw [if_pos rfl] at H; exact H
  clear H
  have H := H1
  clear H1
  replace H := Option.bind_eq_some_iff.mp H
  obtain ⟨⟨t540, t541, t544⟩, A190, H⟩ := H
  replace H : (some (t527, t528, t531, t540, t541, t544)) = some (r1, r2, r3, r4, r5, r6) := H
  have A19 := Aside0.mk A190
  clear A190
  simp only [Option.some.injEq, Prod.mk.injEq] at H
  obtain ⟨rfl, rfl, rfl, rfl, rfl, rfl⟩ := H
  try go_wp2
  have n0_ := Aside0.mk (Kd.R_drew HO530.out)
  have n1_ := Aside0.mk (Kd.N_drew HO533.out)
  have n2_ := Aside0.mk (blk_drew BK521.out)
  have n3_ := Aside0.mk (blk_drew BK522.out)
  have n4_ := Aside0.mk (blk_drew BK536.out)
  have n5_ := Aside0.mk (IsS58.drew HI526.out)
  have n6_ := Aside0.mk (below_drew1 HB.out)
  clear HO530
  clear HO533
  clear BK521
  clear BK522
  clear BK536
  clear HI526
  clear HB
  revert n0_ n1_ n2_ n3_ n4_ n5_ n6_
  intro HO530 HO533 BK521 BK522 BK536 HI526 HB
  refine start_ (n := 5) (S := fun w' => w'.cell? ⟨gb536, 0, none⟩ = some (.int .i64 t527) ∧ w'.cell? ⟨gb536, 1, none⟩ = some (.slice Ao15 t528.length co15) ∧ w'.cell? ⟨gb536, 2, none⟩ = some (.slice Ao16 t531.length co16)) (ds := []) #[false,false,false,false,false] kr rfl rfl ⟨(blk_cell BK536.out 0).trans rfl, (blk_cell BK536.out 1).trans rfl, (blk_cell BK536.out 2).trans rfl⟩ (fun hHeld => ?_)
  generalize w17.drew = w20 at HO530 HO533 BK521 BK522 BK536 HI526 HB hHeld ⊢
  refine take_ (i := 0) (N := some 12) (v := ?_) (a' := ?_) (bm 5 1) rfl rfl kr qi (Or.inl ⟨by rfl, ?_⟩) hHeld ?_ ?_
  rotate_left
  ·rintro w' ⟨s0, s1, s2⟩
   go_simp
   with_reducible rfl
  rotate_left
  ·simp only [sx]
   rfl
  refine take_ (i := 1) (N := some 13) (v := ?_) (a' := ?_) (bm 5 3) rfl rfl kr qi (Or.inl ⟨by rfl, ?_⟩) hHeld ?_ ?_
  rotate_left
  ·rintro w' ⟨s0, s1, s2⟩
   go_simp
   with_reducible rfl
  rotate_left
  ·simp only [sx]
   rfl
  refine one_ (i := 2) (N := some 14) (bm 5 7) rfl rfl kr (by decide) (fun K hK => ?_)
  refine goes_ Try.func36 kr rfl #[.agg #[.int .i64 t527, .slice Ao15 t528.length co15, .slice Ao16 t531.length co16]] (by rfl) rfl rfl mpw ?_
  with_reducible refine (spec_l3Copy.calls k t527 _ _ t528 _ _ t531 t540 t541 t544 _ ?side1 ?side2 ?side3 ?side4 A19.out).mono ?_
  (case side1 => repeat (first | exact (Kd.R_reads' HO530.out).2.2 | (with_reducible refine Kd.C_alloc ?_ _) | (with_reducible refine Kd.C_drewN ?_ _) | (with_reducible refine Kd.C_drew ?_)))
  (case side2 => exact (Kd.R_reads' HO530.out).2.1)
  (case side3 => repeat (first | exact (Kd.N_reads' HO533.out).2.2 | (with_reducible refine Kd.C_alloc ?_ _) | (with_reducible refine Kd.C_drewN ?_ _) | (with_reducible refine Kd.C_drew ?_)))
  (case side4 => exact (Kd.N_reads' HO533.out).2.1)
  rintro e w21 ⟨v542, v545, rfl, ho0, ho1, hb⟩
  refine ⟨_, rfl, ?_⟩
  obtain ⟨N22, EN22⟩ := Ow.name_size hb
  have n0_ := Aside0.mk (Kd.R_elder' (by (with_reducible repeat (first | apply Kd.R_alloc | apply Kd.R_drewN | apply Kd.R_drew)); exact HO530.out) (Kd.R_base ho0) hb)
  have n1_ := Aside0.mk (Kd.N_mono (Kd.N_told (Kd.N_told (Kd.N_old (by (with_reducible repeat (first | apply Kd.N_alloc | apply Kd.N_drewN | apply Kd.N_drew)); exact HO533.out) hb) (Kd.R_base ho0)) (by first | exact Kd.N_base ho1 | exact Kd.S_base ho1)) (fun _ h_ => h_.1))
  have n2_ := Aside0.mk (Kd.R_lower (Ow.R_geN (Kd.R_new' (Kd.R_newM (M := fun k_ => (w.heap.size ≤ k_)) ho0 (below_size (by repeat (first | (with_reducible first | exact HB.out | apply below_alloc | apply pw_below_drewN | apply below_drew1 | refine below_set ?_ (IsS58.ge HI526.out) | refine below_set ?_ GE521.out | refine below_set ?_ GE522.out | refine below_set ?_ GE536.out) | exact HB.out))) (fun k_ h_ => h_)) (Kd.R_lt (by (with_reducible repeat (first | apply Kd.R_alloc | apply Kd.R_drewN | apply Kd.R_drew)); exact HO530.out))) EN22.out) (below_size (by repeat (first | (with_reducible first | exact HB.out | apply below_alloc | apply pw_below_drewN | apply below_drew1 | refine below_set ?_ (IsS58.ge HI526.out) | refine below_set ?_ GE521.out | refine below_set ?_ GE522.out | refine below_set ?_ GE536.out) | exact HB.out))))
  have n3_ := Aside0.mk (Kd.N_lower (Kd.N_mono (ok' := fun k_ => (w.heap.size ≤ k_) ∧ some k_ ≠ (v542 : Value).ownBlock ∧ some k_ ≠ (.slice Ao15 t528.length co15 : Value).ownBlock ∧ some k_ ≠ (.slice Ao16 t531.length co16 : Value).ownBlock ∧ k_ ≠ gb521 ∧ k_ ≠ gb522 ∧ k_ ≠ gb536 ∧ k_ ≠ g526) (Kd.S_N (Kd.S_bound ho1)) (fun k_ hk_ => ⟨(Nat.le_trans (below_size (by repeat (first | (with_reducible first | exact HB.out | apply below_alloc | apply pw_below_drewN | apply below_drew1 | refine below_set ?_ (IsS58.ge HI526.out) | refine below_set ?_ GE521.out | refine below_set ?_ GE522.out | refine below_set ?_ GE536.out) | exact HB.out))) hk_.2.1), hk_.1, (Kd.fresh' (Kd.R_lt (by (with_reducible repeat (first | apply Kd.R_alloc | apply Kd.R_drewN | apply Kd.R_drew)); exact HO530.out)) k_ hk_.2.1), (Kd.fresh' (Kd.N_lt (by (with_reducible repeat (first | apply Kd.N_alloc | apply Kd.N_drewN | apply Kd.N_drew)); exact HO533.out)) k_ hk_.2.1), (Kd.freshB (g := gb521) (o := .cells #[.int .i64 0, .slice none 0 0, .slice none 0 0] 27 (0, 0)) bkw k_ hk_.2.1), (Kd.freshB (g := gb522) (o := .cells #[.int .i64 0, .slice none 0 0, .slice none 0 0] 27 (0, 0)) bkw k_ hk_.2.1), (Kd.freshB (g := gb536) (o := .cells #[.int .i64 t527, .slice Ao15 t528.length co15, .slice Ao16 t531.length co16] 27 (0, 0)) bkw k_ hk_.2.1), (IsS58.fresh (by repeat (first | (with_reducible first | exact HI526.out | apply IsS58.alloc | apply IsS58.drewN | apply IsS58.drew | apply IsS58.set_1 | apply IsS58.set_2 | refine IsS58.far ?_ NB526_521.out _ | refine IsS58.far ?_ NB526_522.out _ | refine IsS58.far ?_ NB526_536.out _) | exact HI526.out)) k_ hk_.2.1)⟩)) (below_size (by repeat (first | (with_reducible first | exact HB.out | apply below_alloc | apply pw_below_drewN | apply below_drew1 | refine below_set ?_ (IsS58.ge HI526.out) | refine below_set ?_ GE521.out | refine below_set ?_ GE522.out | refine below_set ?_ GE536.out) | exact HB.out))))
  have n4_ := Aside0.mk (blk_below (g := gb521) (o := .cells #[.int .i64 0, .slice none 0 0, .slice none 0 0] 27 (0, 0)) bkw hb)
  have n5_ := Aside0.mk (blk_below (g := gb522) (o := .cells #[.int .i64 0, .slice none 0 0, .slice none 0 0] 27 (0, 0)) bkw hb)
  have n6_ := Aside0.mk (IsS58.below (by repeat (first | (with_reducible first | exact HI526.out | apply IsS58.alloc | apply IsS58.drewN | apply IsS58.drew | apply IsS58.set_1 | apply IsS58.set_2 | refine IsS58.far ?_ NB526_521.out _ | refine IsS58.far ?_ NB526_522.out _ | refine IsS58.far ?_ NB526_536.out _) | exact HI526.out)) hb)
  have n7_ := Aside0.mk (blk_below (g := gb536) (o := .cells #[.int .i64 t527, .slice Ao15 t528.length co15, .slice Ao16 t531.length co16] 27 (0, 0)) bkw hb)
  have n8_ := Aside0.mk (below_step (by repeat (first | (with_reducible first | exact HB.out | apply below_alloc | apply pw_below_drewN | apply below_drew1 | refine below_set ?_ (IsS58.ge HI526.out) | refine below_set ?_ GE521.out | refine below_set ?_ GE522.out | refine below_set ?_ GE536.out) | exact HB.out)) hb)
  clear HO530
  clear HO533
  clear BK521
  clear BK522
  clear HI526
  clear BK536
  clear HB
  revert n0_ n1_ n2_ n3_ n4_ n5_ n6_ n7_ n8_
  intro HO530 HO533 HO543 HO546 BK521 BK522 HI526 BK536 HB
  (try clear hb)
  (try clear hb2)
  (try clear hk)
  (try clear hi)
  (try clear ho0)
  (try clear ho1)
  obtain ⟨Ao27, co27, eo27⟩ := Kd.R_slice HO543.out
  (first | subst eo27 | (injection eo27 with f1_ f2_ f3_; have f4_ := f1_.symm; have f5_ := f3_.symm; clear f1_ f2_ f3_; subst f4_; subst f5_))
  obtain ⟨Ao29, co29, eo29⟩ := Kd.N_slice HO546.out
  (first | subst eo29 | (injection eo29 with f1_ f2_ f3_; have f4_ := f1_.symm; have f5_ := f3_.symm; clear f1_ f2_ f3_; subst f4_; subst f5_))
  refine hK.out _ _ ⟨(blk_cell BK536.out 0).trans rfl, (blk_cell BK536.out 1).trans rfl, (blk_cell BK536.out 2).trans rfl⟩ (fun hHeld => ?_)
  clear hK K
  refine norm_ (a' := ?_) ?_ ?_
  rotate_left
  ·show Act.put _ (some 14) _ = _
   simp only [sx]
   rfl
  refine one_ (i := 3) (N := none) (bm 5 15) rfl rfl kr (by decide) (fun K hK => ?_)
  have hs23 : w21.cell? ⟨gb521, 0, none⟩ = some (.int .i64 0) := (blk_cell BK521.out 0).trans rfl
  have hfs23 := blk_frozen BK521.out 0
  have hns23_1 := NB522_521.out
  have hns23_2 := NB536_521.out
  have hms23_1 := NB521_522.out
  have hms23_2 := NB521_536.out
  have hs24 : w21.cell? ⟨gb521, 1, none⟩ = some (.slice none 0 0) := (blk_cell BK521.out 1).trans rfl
  have hfs24 := blk_frozen BK521.out 1
  have hns24_1 := NB522_521.out
  have hns24_2 := NB536_521.out
  have hms24_1 := NB521_522.out
  have hms24_2 := NB521_536.out
  have hs25 : w21.cell? ⟨gb521, 2, none⟩ = some (.slice none 0 0) := (blk_cell BK521.out 2).trans rfl
  have hfs25 := blk_frozen BK521.out 2
  have hns25_1 := NB522_521.out
  have hns25_2 := NB536_521.out
  have hms25_1 := NB521_522.out
  have hms25_2 := NB521_536.out
  refine skip_ (w1 := ?_) (by rfl) rfl ?_ ?_
  rotate_left
  ·go_simp
   rfl
  refine hK.out _ _ ⟨((cell_far (p := ⟨gb521, _, none⟩) NB536_521.out _).trans (((cell_far (p := ⟨gb521, _, none⟩) NB536_521.out _).trans (((cell_far (p := ⟨gb521, _, none⟩) NB536_521.out _).trans (hHeld.1)))))), ((cell_far (p := ⟨gb521, _, none⟩) NB536_521.out _).trans (((cell_far (p := ⟨gb521, _, none⟩) NB536_521.out _).trans (((cell_far (p := ⟨gb521, _, none⟩) NB536_521.out _).trans (hHeld.2.1)))))), ((cell_far (p := ⟨gb521, _, none⟩) NB536_521.out _).trans (((cell_far (p := ⟨gb521, _, none⟩) NB536_521.out _).trans (((cell_far (p := ⟨gb521, _, none⟩) NB536_521.out _).trans (hHeld.2.2))))))⟩ (fun hHeld => ?_)
  clear hK K
  refine one_ (i := 4) (N := none) (bm 5 31) rfl rfl kr (by decide) (fun K hK => ?_)
  have hs26 : w21.cell? ⟨gb522, 0, none⟩ = some (.int .i64 0) := (blk_cell BK522.out 0).trans rfl
  have hfs26 := blk_frozen BK522.out 0
  have hns26_0 := NB521_522.out
  have hns26_2 := NB536_522.out
  have hms26_0 := NB522_521.out
  have hms26_2 := NB522_536.out
  have hs28 : w21.cell? ⟨gb522, 1, none⟩ = some (.slice none 0 0) := (blk_cell BK522.out 1).trans rfl
  have hfs28 := blk_frozen BK522.out 1
  have hns28_0 := NB521_522.out
  have hns28_2 := NB536_522.out
  have hms28_0 := NB522_521.out
  have hms28_2 := NB522_536.out
  have hs30 : w21.cell? ⟨gb522, 2, none⟩ = some (.slice none 0 0) := (blk_cell BK522.out 2).trans rfl
  have hfs30 := blk_frozen BK522.out 2
  have hns30_0 := NB521_522.out
  have hns30_2 := NB536_522.out
  have hms30_0 := NB522_521.out
  have hms30_2 := NB522_536.out
  refine skip_ (w1 := ?_) (by rfl) rfl ?_ ?_
  rotate_left
  ·go_simp
   rfl
  refine hK.out _ _ ⟨((cell_far (p := ⟨gb522, _, none⟩) NB536_522.out _).trans (((cell_far (p := ⟨gb522, _, none⟩) NB536_522.out _).trans (((cell_far (p := ⟨gb522, _, none⟩) NB536_522.out _).trans (hHeld.1)))))), ((cell_far (p := ⟨gb522, _, none⟩) NB536_522.out _).trans (((cell_far (p := ⟨gb522, _, none⟩) NB536_522.out _).trans (((cell_far (p := ⟨gb522, _, none⟩) NB536_522.out _).trans (hHeld.2.1)))))), ((cell_far (p := ⟨gb522, _, none⟩) NB536_522.out _).trans (((cell_far (p := ⟨gb522, _, none⟩) NB536_522.out _).trans (((cell_far (p := ⟨gb522, _, none⟩) NB536_522.out _).trans (hHeld.2.2))))))⟩ (fun hHeld => ?_)
  clear hK K
  refine done_ kr ?_
  try go_wp2
  refine bodyPost_ret (results_cc rfl _ _ gb521 gb522 27 27 #[.int .i64 t527, .slice Ao15 t528.length co15, .slice Ao16 t531.length co16] #[.int .i64 t540, .slice Ao27 t541.length co27, .slice Ao29 t544.length co29] (0, 0) (0, 0) _ _ rfl (by (with_reducible repeat (first | refine blk_drewN ?_ _ | refine blk_drew ?_ | refine blk_alloc ?_ _)); refine blk_far ?_ NB521_522.out _; (with_reducible repeat (first | refine blk_drewN ?_ _ | refine blk_drew ?_ | refine blk_alloc ?_ _)); refine blk_far ?_ NB521_522.out _; (with_reducible repeat (first | refine blk_drewN ?_ _ | refine blk_drew ?_ | refine blk_alloc ?_ _)); refine blk_far ?_ NB521_522.out _; (with_reducible repeat (first | refine blk_drewN ?_ _ | refine blk_drew ?_ | refine blk_alloc ?_ _)); refine blk_put (cs := #[.int .i64 t527, .slice Ao15 t528.length co15, .slice none 0 0]) ?_ 2 _ rfl; (with_reducible repeat (first | refine blk_drewN ?_ _ | refine blk_drew ?_ | refine blk_alloc ?_ _)); refine blk_put (cs := #[.int .i64 t527, .slice none 0 0, .slice none 0 0]) ?_ 1 _ rfl; (with_reducible repeat (first | refine blk_drewN ?_ _ | refine blk_drew ?_ | refine blk_alloc ?_ _)); refine blk_put (cs := #[.int .i64 0, .slice none 0 0, .slice none 0 0]) ?_ 0 _ rfl; (with_reducible repeat (first | refine blk_drewN ?_ _ | refine blk_drew ?_ | refine blk_alloc ?_ _)); exact BK521.out) Try.underlying27 rfl kr rfl (by (with_reducible repeat (first | refine blk_drewN ?_ _ | refine blk_drew ?_ | refine blk_alloc ?_ _)); refine blk_put (cs := #[.int .i64 t540, .slice Ao27 t541.length co27, .slice none 0 0]) ?_ 2 _ rfl; (with_reducible repeat (first | refine blk_drewN ?_ _ | refine blk_drew ?_ | refine blk_alloc ?_ _)); refine blk_put (cs := #[.int .i64 t540, .slice none 0 0, .slice none 0 0]) ?_ 1 _ rfl; (with_reducible repeat (first | refine blk_drewN ?_ _ | refine blk_drew ?_ | refine blk_alloc ?_ _)); refine blk_put (cs := #[.int .i64 0, .slice none 0 0, .slice none 0 0]) ?_ 0 _ rfl; (with_reducible repeat (first | refine blk_drewN ?_ _ | refine blk_drew ?_ | refine blk_alloc ?_ _)); refine blk_far ?_ NB522_521.out _; (with_reducible repeat (first | refine blk_drewN ?_ _ | refine blk_drew ?_ | refine blk_alloc ?_ _)); refine blk_far ?_ NB522_521.out _; (with_reducible repeat (first | refine blk_drewN ?_ _ | refine blk_drew ?_ | refine blk_alloc ?_ _)); refine blk_far ?_ NB522_521.out _; (with_reducible repeat (first | refine blk_drewN ?_ _ | refine blk_drew ?_ | refine blk_alloc ?_ _)); exact BK522.out) Try.underlying27 rfl kr) rfl ?_
  exact ⟨_, _, _, _, rfw, by (with_reducible repeat (first | apply Kd.R_alloc | apply Kd.R_drewN | apply Kd.R_drew)); exact Kd.R_mono (Kd.R_far (p := ⟨gb522, 2, none⟩) (Kd.R_far (p := ⟨gb522, 1, none⟩) (Kd.R_far (p := ⟨gb522, 0, none⟩) (Kd.R_far (p := ⟨gb521, 2, none⟩) (Kd.R_far (p := ⟨gb521, 1, none⟩) (Kd.R_far (p := ⟨gb521, 0, none⟩) (Kd.R_types (Kd.R_types HO530.out BK521.out (by decide)) BK522.out (by decide)) (fun _ hk => hk.1.2) (.int .i64 t527)) (fun _ hk => hk.1.2) (.slice Ao15 t528.length co15)) (fun _ hk => hk.1.2) (.slice Ao16 t531.length co16)) (fun _ hk => hk.2) (.int .i64 t540)) (fun _ hk => hk.2) (.slice Ao27 t541.length co27)) (fun _ hk => hk.2) (.slice Ao29 t544.length co29)) (fun _ hk => ⟨hk.1.1.1.1, hk.1.1.2⟩), by (with_reducible repeat (first | apply Kd.N_alloc | apply Kd.N_drewN | apply Kd.N_drew)); exact Kd.N_mono (Kd.N_far (p := ⟨gb522, 2, none⟩) (Kd.N_far (p := ⟨gb522, 1, none⟩) (Kd.N_far (p := ⟨gb522, 0, none⟩) (Kd.N_far (p := ⟨gb521, 2, none⟩) (Kd.N_far (p := ⟨gb521, 1, none⟩) (Kd.N_far (p := ⟨gb521, 0, none⟩) (Kd.N_mono (Kd.N_mono HO533.out (fun k_ hk => (⟨hk, hk.1.1.1.2.2.1⟩ : _ ∧ k_ ≠ gb521))) (fun k_ hk => (⟨hk, hk.1.1.1.1.2.2.2.1⟩ : _ ∧ k_ ≠ gb522))) (fun _ hk => hk.1.2) (.int .i64 t527)) (fun _ hk => hk.1.2) (.slice Ao15 t528.length co15)) (fun _ hk => hk.1.2) (.slice Ao16 t531.length co16)) (fun _ hk => hk.2) (.int .i64 t540)) (fun _ hk => hk.2) (.slice Ao27 t541.length co27)) (fun _ hk => hk.2) (.slice Ao29 t544.length co29)) (fun _ hk => ⟨hk.1.1.1.1.1.1, ⟨hk.1.1.1.1.1.2.1, ⟨hk.1.1.1.2, hk.1.1.2⟩⟩⟩), by (with_reducible repeat (first | apply Kd.R_alloc | apply Kd.R_drewN | apply Kd.R_drew)); exact Kd.R_mono (Kd.R_far (p := ⟨gb522, 2, none⟩) (Kd.R_far (p := ⟨gb522, 1, none⟩) (Kd.R_far (p := ⟨gb522, 0, none⟩) (Kd.R_far (p := ⟨gb521, 2, none⟩) (Kd.R_far (p := ⟨gb521, 1, none⟩) (Kd.R_far (p := ⟨gb521, 0, none⟩) (Kd.R_types (Kd.R_types HO543.out BK521.out (by decide)) BK522.out (by decide)) (fun _ hk => hk.1.2) (.int .i64 t527)) (fun _ hk => hk.1.2) (.slice Ao15 t528.length co15)) (fun _ hk => hk.1.2) (.slice Ao16 t531.length co16)) (fun _ hk => hk.2) (.int .i64 t540)) (fun _ hk => hk.2) (.slice Ao27 t541.length co27)) (fun _ hk => hk.2) (.slice Ao29 t544.length co29)) (fun _ hk => ⟨hk.1.1.1.1.1, hk.1.1.1.2⟩), by (with_reducible repeat (first | apply Kd.N_alloc | apply Kd.N_drewN | apply Kd.N_drew)); exact Kd.N_mono (Kd.N_far (p := ⟨gb522, 2, none⟩) (Kd.N_far (p := ⟨gb522, 1, none⟩) (Kd.N_far (p := ⟨gb522, 0, none⟩) (Kd.N_far (p := ⟨gb521, 2, none⟩) (Kd.N_far (p := ⟨gb521, 1, none⟩) (Kd.N_far (p := ⟨gb521, 0, none⟩) (Kd.N_mono (Kd.N_mono HO546.out (fun k_ hk => (⟨hk, hk.2.2.2.2.1⟩ : _ ∧ k_ ≠ gb521))) (fun k_ hk => (⟨hk, hk.1.2.2.2.2.2.1⟩ : _ ∧ k_ ≠ gb522))) (fun _ hk => hk.1.2) (.int .i64 t527)) (fun _ hk => hk.1.2) (.slice Ao15 t528.length co15)) (fun _ hk => hk.1.2) (.slice Ao16 t531.length co16)) (fun _ hk => hk.2) (.int .i64 t540)) (fun _ hk => hk.2) (.slice Ao27 t541.length co27)) (fun _ hk => hk.2) (.slice Ao29 t544.length co29)) (fun _ hk => ⟨hk.1.1.1, ⟨hk.1.1.2.2.1, ⟨hk.1.1.2.2.2.1, hk.1.1.2.1⟩⟩⟩), by repeat (first | (with_reducible first | exact HB.out | apply below_alloc | apply pw_below_drewN | apply below_drew1 | refine below_set ?_ (IsS58.ge HI526.out) | refine below_set ?_ GE521.out | refine below_set ?_ GE522.out | refine below_set ?_ GE536.out) | exact HB.out)⟩
 replace c18 := Bool.eq_false_iff.mpr c18
 subst c18
 have H1 : ((spec_l3Bent.f k t523 t538 t539).bind fun bt547 => (some (t527, t528, t531, bt547.1, bt547.2.1, bt547.2.2.1))) = some (r1, r2, r3, r4, r5, r6) := by rw [if_neg (show ¬ (false = true) by decide)] at H; exact H
 clear H
 have H := H1
 clear H1
 replace H := Option.bind_eq_some_iff.mp H
 obtain ⟨⟨t547, t548, t551, t554, t555⟩, A310, H⟩ := H
 replace H : (some (t527, t528, t531, t547, t548, t551)) = some (r1, r2, r3, r4, r5, r6) := H
 have A31 := Aside0.mk A310
 clear A310
 simp only [Option.some.injEq, Prod.mk.injEq] at H
 obtain ⟨rfl, rfl, rfl, rfl, rfl, rfl⟩ := H
 try go_wp2
 have n0_ := Aside0.mk (Kd.R_drew HO530.out)
 have n1_ := Aside0.mk (Kd.N_drew HO533.out)
 have n2_ := Aside0.mk (blk_drew BK521.out)
 have n3_ := Aside0.mk (blk_drew BK522.out)
 have n4_ := Aside0.mk (blk_drew BK536.out)
 have n5_ := Aside0.mk (IsS58.drew HI526.out)
 have n6_ := Aside0.mk (below_drew1 HB.out)
 clear HO530
 clear HO533
 clear BK521
 clear BK522
 clear BK536
 clear HI526
 clear HB
 revert n0_ n1_ n2_ n3_ n4_ n5_ n6_
 intro HO530 HO533 BK521 BK522 BK536 HI526 HB
 refine start_ (n := 5) (S := fun w' => w'.cell? ⟨gb536, 0, none⟩ = some (.int .i64 t527) ∧ w'.cell? ⟨gb536, 1, none⟩ = some (.slice Ao15 t528.length co15) ∧ w'.cell? ⟨gb536, 2, none⟩ = some (.slice Ao16 t531.length co16)) (ds := []) #[false,false,false,false,false] kr rfl rfl ⟨(blk_cell BK536.out 0).trans rfl, (blk_cell BK536.out 1).trans rfl, (blk_cell BK536.out 2).trans rfl⟩ (fun hHeld => ?_)
 generalize w17.drew = w32 at HO530 HO533 BK521 BK522 BK536 HI526 HB hHeld ⊢
 refine pure_ (i := 1) (N := some 16) (v := ?_) (a' := ?_) (bm 5 2) rfl rfl kr qi (Or.inl ⟨by rfl, ?_⟩) ?_ ?_
 rotate_left
 ·intro w'
  go_simp
  with_reducible rfl
 rotate_left
 ·simp only [sx]
  rfl
 refine take_ (i := 0) (N := some 15) (v := ?_) (a' := ?_) (bm 5 3) rfl rfl kr qi (Or.inl ⟨by rfl, ?_⟩) hHeld ?_ ?_
 rotate_left
 ·rintro w' ⟨s0, s1, s2⟩
  go_simp
  with_reducible rfl
 rotate_left
 ·simp only [sx]
  rfl
 refine one_ (i := 2) (N := some 17) (bm 5 7) rfl rfl kr (by decide) (fun K hK => ?_)
 refine goes_ Try.func22 kr rfl #[.pointer (some ⟨g526, 0, none⟩)] (by rfl) rfl rfl mpw ?_
 with_reducible refine (spec_l3Bent.calls k g526 t523 t538 t539 t547 t548 t551 t554 t555 w _ ?side1 ?side2 A31.out).mono ?_
 (case side1 => repeat (first | (with_reducible first | exact HI526.out | apply IsS58.alloc | apply IsS58.drewN | apply IsS58.drew | apply IsS58.set_1 | apply IsS58.set_2 | refine IsS58.far ?_ NB526_521.out _ | refine IsS58.far ?_ NB526_522.out _ | refine IsS58.far ?_ NB526_536.out _) | exact HI526.out))
 (case side2 => repeat (first | (with_reducible first | exact HB.out | apply below_alloc | apply pw_below_drewN | apply below_drew1 | refine below_set ?_ (IsS58.ge HI526.out) | refine below_set ?_ GE521.out | refine below_set ?_ GE522.out | refine below_set ?_ GE536.out) | exact HB.out))
 rintro e w33 ⟨v549, v552, rfl, ho0, ho1, hi, hb, hk⟩
 refine ⟨_, rfl, ?_⟩
 have n0_ := Aside0.mk (KeepBut.blk hk (g' := gb521) (o := .cells #[.int .i64 0, .slice none 0 0, .slice none 0 0] 27 (0, 0)) bkw NB521_526.out (by simp))
 have n1_ := Aside0.mk (KeepBut.blk hk (g' := gb522) (o := .cells #[.int .i64 0, .slice none 0 0, .slice none 0 0] 27 (0, 0)) bkw NB522_526.out (by simp))
 have n2_ := Aside0.mk (Kd.R_mono (Kd.R_told (Kd.R_oldK (IsS58.apart (show IsS58 w _ g526 t523 t538 t539 from by repeat (first | (with_reducible first | exact HI526.out | apply IsS58.alloc | apply IsS58.drewN | apply IsS58.drew | apply IsS58.set_1 | apply IsS58.set_2 | refine IsS58.far ?_ NB526_521.out _ | refine IsS58.far ?_ NB526_522.out _ | refine IsS58.far ?_ NB526_536.out _) | exact HI526.out)) (by (with_reducible repeat (first | apply Kd.R_alloc | apply Kd.R_drewN | apply Kd.R_drew)); exact HO530.out) (by decide)) hk) (Kd.R_base ho0)) (fun _ h_ => h_.1))
 have n3_ := Aside0.mk (Kd.N_mono (Kd.N_told (Kd.N_told (Kd.N_oldK (Kd.N_mono (ok := fun k_ => ((((w.heap.size ≤ k_)) ∧ (some k_ ≠ (.slice Ao15 t528.length co15 : Value).ownBlock ∧ (k_ ≠ gb521 ∧ (k_ ≠ gb522 ∧ k_ ≠ g526)))) ∧ k_ ≠ gb536)) (by (with_reducible repeat (first | apply Kd.N_alloc | apply Kd.N_drewN | apply Kd.N_drew)); exact HO533.out) (fun k_ hk_ => (⟨hk_, hk_.1.2.2.2.2⟩ : _ ∧ k_ ≠ g526))) hk) (Kd.R_base ho0)) (by first | exact Kd.N_base ho1 | exact Kd.S_base ho1)) (fun _ h_ => h_.1))
 have n4_ := Aside0.mk (KeepBut.blk hk (g' := gb536) (o := .cells #[.int .i64 t527, .slice Ao15 t528.length co15, .slice Ao16 t531.length co16] 27 (0, 0)) bkw NB536_526.out (by simp))
 have n5_ := Aside0.mk (Kd.R_lower (Kd.R_new' (Kd.R_newM (M := fun k_ => (w.heap.size ≤ k_)) (Kd.R_mono (ok' := fun k_ => True) ho0 (fun _ hk_ => trivial)) (below_size (by repeat (first | (with_reducible first | exact HB.out | apply below_alloc | apply pw_below_drewN | apply below_drew1 | refine below_set ?_ (IsS58.ge HI526.out) | refine below_set ?_ GE521.out | refine below_set ?_ GE522.out | refine below_set ?_ GE536.out) | exact HB.out))) (fun k_ h_ => h_)) (Kd.R_lt (by (with_reducible repeat (first | apply Kd.R_alloc | apply Kd.R_drewN | apply Kd.R_drew)); exact HO530.out))) (below_size (by repeat (first | (with_reducible first | exact HB.out | apply below_alloc | apply pw_below_drewN | apply below_drew1 | refine below_set ?_ (IsS58.ge HI526.out) | refine below_set ?_ GE521.out | refine below_set ?_ GE522.out | refine below_set ?_ GE536.out) | exact HB.out))))
 have n6_ := Aside0.mk (Kd.N_lower (Kd.N_mono (ok' := fun k_ => (w.heap.size ≤ k_) ∧ some k_ ≠ (v549 : Value).ownBlock ∧ some k_ ≠ (.slice Ao15 t528.length co15 : Value).ownBlock ∧ some k_ ≠ (.slice Ao16 t531.length co16 : Value).ownBlock ∧ k_ ≠ gb521 ∧ k_ ≠ gb522 ∧ k_ ≠ gb536 ∧ k_ ≠ g526) ho1 (fun k_ hk_ => ⟨(Nat.le_trans (below_size (by repeat (first | (with_reducible first | exact HB.out | apply below_alloc | apply pw_below_drewN | apply below_drew1 | refine below_set ?_ (IsS58.ge HI526.out) | refine below_set ?_ GE521.out | refine below_set ?_ GE522.out | refine below_set ?_ GE536.out) | exact HB.out))) hk_.1), hk_.2, (Kd.fresh' (Kd.R_lt (by (with_reducible repeat (first | apply Kd.R_alloc | apply Kd.R_drewN | apply Kd.R_drew)); exact HO530.out)) k_ hk_.1), (Kd.fresh' (Kd.N_lt (by (with_reducible repeat (first | apply Kd.N_alloc | apply Kd.N_drewN | apply Kd.N_drew)); exact HO533.out)) k_ hk_.1), (Kd.freshB (g := gb521) (o := .cells #[.int .i64 0, .slice none 0 0, .slice none 0 0] 27 (0, 0)) bkw k_ hk_.1), (Kd.freshB (g := gb522) (o := .cells #[.int .i64 0, .slice none 0 0, .slice none 0 0] 27 (0, 0)) bkw k_ hk_.1), (Kd.freshB (g := gb536) (o := .cells #[.int .i64 t527, .slice Ao15 t528.length co15, .slice Ao16 t531.length co16] 27 (0, 0)) bkw k_ hk_.1), (IsS58.fresh (by repeat (first | (with_reducible first | exact HI526.out | apply IsS58.alloc | apply IsS58.drewN | apply IsS58.drew | apply IsS58.set_1 | apply IsS58.set_2 | refine IsS58.far ?_ NB526_521.out _ | refine IsS58.far ?_ NB526_522.out _ | refine IsS58.far ?_ NB526_536.out _) | exact HI526.out)) k_ hk_.1)⟩)) (below_size (by repeat (first | (with_reducible first | exact HB.out | apply below_alloc | apply pw_below_drewN | apply below_drew1 | refine below_set ?_ (IsS58.ge HI526.out) | refine below_set ?_ GE521.out | refine below_set ?_ GE522.out | refine below_set ?_ GE536.out) | exact HB.out))))
 have n7_ := Aside0.mk (hb)
 have n8_ := Aside0.mk (hi)
 clear BK521
 clear BK522
 clear HO530
 clear HO533
 clear BK536
 clear HB
 clear HI526
 revert n0_ n1_ n2_ n3_ n4_ n5_ n6_ n7_ n8_
 intro BK521 BK522 HO530 HO533 BK536 HO550 HO553 HB HI526
 (try clear hb)
 (try clear hb2)
 (try clear hk)
 (try clear hi)
 (try clear ho0)
 (try clear ho1)
 obtain ⟨Ao38, co38, eo38⟩ := Kd.R_slice HO550.out
 (first | subst eo38 | (injection eo38 with f1_ f2_ f3_; have f4_ := f1_.symm; have f5_ := f3_.symm; clear f1_ f2_ f3_; subst f4_; subst f5_))
 obtain ⟨Ao40, co40, eo40⟩ := Kd.N_slice HO553.out
 (first | subst eo40 | (injection eo40 with f1_ f2_ f3_; have f4_ := f1_.symm; have f5_ := f3_.symm; clear f1_ f2_ f3_; subst f4_; subst f5_))
 refine hK.out _ _ ⟨(blk_cell BK536.out 0).trans rfl, (blk_cell BK536.out 1).trans rfl, (blk_cell BK536.out 2).trans rfl⟩ (fun hHeld => ?_)
 clear hK K
 refine norm_ (a' := ?_) ?_ ?_
 rotate_left
 ·show Act.put _ (some 17) _ = _
  simp only [sx]
  rfl
 refine one_ (i := 3) (N := none) (bm 5 15) rfl rfl kr (by decide) (fun K hK => ?_)
 have hs34 : w33.cell? ⟨gb521, 0, none⟩ = some (.int .i64 0) := (blk_cell BK521.out 0).trans rfl
 have hfs34 := blk_frozen BK521.out 0
 have hns34_1 := NB522_521.out
 have hns34_2 := NB536_521.out
 have hms34_1 := NB521_522.out
 have hms34_2 := NB521_536.out
 have hs35 : w33.cell? ⟨gb521, 1, none⟩ = some (.slice none 0 0) := (blk_cell BK521.out 1).trans rfl
 have hfs35 := blk_frozen BK521.out 1
 have hns35_1 := NB522_521.out
 have hns35_2 := NB536_521.out
 have hms35_1 := NB521_522.out
 have hms35_2 := NB521_536.out
 have hs36 : w33.cell? ⟨gb521, 2, none⟩ = some (.slice none 0 0) := (blk_cell BK521.out 2).trans rfl
 have hfs36 := blk_frozen BK521.out 2
 have hns36_1 := NB522_521.out
 have hns36_2 := NB536_521.out
 have hms36_1 := NB521_522.out
 have hms36_2 := NB521_536.out
 refine skip_ (w1 := ?_) (by rfl) rfl ?_ ?_
 rotate_left
 ·go_simp
  rfl
 refine hK.out _ _ ⟨((cell_far (p := ⟨gb521, _, none⟩) NB536_521.out _).trans (((cell_far (p := ⟨gb521, _, none⟩) NB536_521.out _).trans (((cell_far (p := ⟨gb521, _, none⟩) NB536_521.out _).trans (hHeld.1)))))), ((cell_far (p := ⟨gb521, _, none⟩) NB536_521.out _).trans (((cell_far (p := ⟨gb521, _, none⟩) NB536_521.out _).trans (((cell_far (p := ⟨gb521, _, none⟩) NB536_521.out _).trans (hHeld.2.1)))))), ((cell_far (p := ⟨gb521, _, none⟩) NB536_521.out _).trans (((cell_far (p := ⟨gb521, _, none⟩) NB536_521.out _).trans (((cell_far (p := ⟨gb521, _, none⟩) NB536_521.out _).trans (hHeld.2.2))))))⟩ (fun hHeld => ?_)
 clear hK K
 refine one_ (i := 4) (N := none) (bm 5 31) rfl rfl kr (by decide) (fun K hK => ?_)
 have hs37 : w33.cell? ⟨gb522, 0, none⟩ = some (.int .i64 0) := (blk_cell BK522.out 0).trans rfl
 have hfs37 := blk_frozen BK522.out 0
 have hns37_0 := NB521_522.out
 have hns37_2 := NB536_522.out
 have hms37_0 := NB522_521.out
 have hms37_2 := NB522_536.out
 have hs39 : w33.cell? ⟨gb522, 1, none⟩ = some (.slice none 0 0) := (blk_cell BK522.out 1).trans rfl
 have hfs39 := blk_frozen BK522.out 1
 have hns39_0 := NB521_522.out
 have hns39_2 := NB536_522.out
 have hms39_0 := NB522_521.out
 have hms39_2 := NB522_536.out
 have hs41 : w33.cell? ⟨gb522, 2, none⟩ = some (.slice none 0 0) := (blk_cell BK522.out 2).trans rfl
 have hfs41 := blk_frozen BK522.out 2
 have hns41_0 := NB521_522.out
 have hns41_2 := NB536_522.out
 have hms41_0 := NB522_521.out
 have hms41_2 := NB522_536.out
 refine skip_ (w1 := ?_) (by rfl) rfl ?_ ?_
 rotate_left
 ·go_simp
  rfl
 refine hK.out _ _ ⟨((cell_far (p := ⟨gb522, _, none⟩) NB536_522.out _).trans (((cell_far (p := ⟨gb522, _, none⟩) NB536_522.out _).trans (((cell_far (p := ⟨gb522, _, none⟩) NB536_522.out _).trans (hHeld.1)))))), ((cell_far (p := ⟨gb522, _, none⟩) NB536_522.out _).trans (((cell_far (p := ⟨gb522, _, none⟩) NB536_522.out _).trans (((cell_far (p := ⟨gb522, _, none⟩) NB536_522.out _).trans (hHeld.2.1)))))), ((cell_far (p := ⟨gb522, _, none⟩) NB536_522.out _).trans (((cell_far (p := ⟨gb522, _, none⟩) NB536_522.out _).trans (((cell_far (p := ⟨gb522, _, none⟩) NB536_522.out _).trans (hHeld.2.2))))))⟩ (fun hHeld => ?_)
 clear hK K
 refine done_ kr ?_
 try go_wp2
 refine bodyPost_ret (results_cc rfl _ _ gb521 gb522 27 27 #[.int .i64 t527, .slice Ao15 t528.length co15, .slice Ao16 t531.length co16] #[.int .i64 t547, .slice Ao38 t548.length co38, .slice Ao40 t551.length co40] (0, 0) (0, 0) _ _ rfl (by (with_reducible repeat (first | refine blk_drewN ?_ _ | refine blk_drew ?_ | refine blk_alloc ?_ _)); refine blk_far ?_ NB521_522.out _; (with_reducible repeat (first | refine blk_drewN ?_ _ | refine blk_drew ?_ | refine blk_alloc ?_ _)); refine blk_far ?_ NB521_522.out _; (with_reducible repeat (first | refine blk_drewN ?_ _ | refine blk_drew ?_ | refine blk_alloc ?_ _)); refine blk_far ?_ NB521_522.out _; (with_reducible repeat (first | refine blk_drewN ?_ _ | refine blk_drew ?_ | refine blk_alloc ?_ _)); refine blk_put (cs := #[.int .i64 t527, .slice Ao15 t528.length co15, .slice none 0 0]) ?_ 2 _ rfl; (with_reducible repeat (first | refine blk_drewN ?_ _ | refine blk_drew ?_ | refine blk_alloc ?_ _)); refine blk_put (cs := #[.int .i64 t527, .slice none 0 0, .slice none 0 0]) ?_ 1 _ rfl; (with_reducible repeat (first | refine blk_drewN ?_ _ | refine blk_drew ?_ | refine blk_alloc ?_ _)); refine blk_put (cs := #[.int .i64 0, .slice none 0 0, .slice none 0 0]) ?_ 0 _ rfl; (with_reducible repeat (first | refine blk_drewN ?_ _ | refine blk_drew ?_ | refine blk_alloc ?_ _)); exact BK521.out) Try.underlying27 rfl kr rfl (by (with_reducible repeat (first | refine blk_drewN ?_ _ | refine blk_drew ?_ | refine blk_alloc ?_ _)); refine blk_put (cs := #[.int .i64 t547, .slice Ao38 t548.length co38, .slice none 0 0]) ?_ 2 _ rfl; (with_reducible repeat (first | refine blk_drewN ?_ _ | refine blk_drew ?_ | refine blk_alloc ?_ _)); refine blk_put (cs := #[.int .i64 t547, .slice none 0 0, .slice none 0 0]) ?_ 1 _ rfl; (with_reducible repeat (first | refine blk_drewN ?_ _ | refine blk_drew ?_ | refine blk_alloc ?_ _)); refine blk_put (cs := #[.int .i64 0, .slice none 0 0, .slice none 0 0]) ?_ 0 _ rfl; (with_reducible repeat (first | refine blk_drewN ?_ _ | refine blk_drew ?_ | refine blk_alloc ?_ _)); refine blk_far ?_ NB522_521.out _; (with_reducible repeat (first | refine blk_drewN ?_ _ | refine blk_drew ?_ | refine blk_alloc ?_ _)); refine blk_far ?_ NB522_521.out _; (with_reducible repeat (first | refine blk_drewN ?_ _ | refine blk_drew ?_ | refine blk_alloc ?_ _)); refine blk_far ?_ NB522_521.out _; (with_reducible repeat (first | refine blk_drewN ?_ _ | refine blk_drew ?_ | refine blk_alloc ?_ _)); exact BK522.out) Try.underlying27 rfl kr) rfl ?_
 exact ⟨_, _, _, _, rfw, by (with_reducible repeat (first | apply Kd.R_alloc | apply Kd.R_drewN | apply Kd.R_drew)); exact Kd.R_mono (Kd.R_far (p := ⟨gb522, 2, none⟩) (Kd.R_far (p := ⟨gb522, 1, none⟩) (Kd.R_far (p := ⟨gb522, 0, none⟩) (Kd.R_far (p := ⟨gb521, 2, none⟩) (Kd.R_far (p := ⟨gb521, 1, none⟩) (Kd.R_far (p := ⟨gb521, 0, none⟩) (Kd.R_types (Kd.R_types HO530.out BK521.out (by decide)) BK522.out (by decide)) (fun _ hk => hk.1.2) (.int .i64 t527)) (fun _ hk => hk.1.2) (.slice Ao15 t528.length co15)) (fun _ hk => hk.1.2) (.slice Ao16 t531.length co16)) (fun _ hk => hk.2) (.int .i64 t547)) (fun _ hk => hk.2) (.slice Ao38 t548.length co38)) (fun _ hk => hk.2) (.slice Ao40 t551.length co40)) (fun _ hk => ⟨hk.1.1.1.1, hk.1.1.2⟩), by (with_reducible repeat (first | apply Kd.N_alloc | apply Kd.N_drewN | apply Kd.N_drew)); exact Kd.N_mono (Kd.N_far (p := ⟨gb522, 2, none⟩) (Kd.N_far (p := ⟨gb522, 1, none⟩) (Kd.N_far (p := ⟨gb522, 0, none⟩) (Kd.N_far (p := ⟨gb521, 2, none⟩) (Kd.N_far (p := ⟨gb521, 1, none⟩) (Kd.N_far (p := ⟨gb521, 0, none⟩) (Kd.N_mono (Kd.N_mono HO533.out (fun k_ hk => (⟨hk, hk.1.1.1.2.2.1⟩ : _ ∧ k_ ≠ gb521))) (fun k_ hk => (⟨hk, hk.1.1.1.1.2.2.2.1⟩ : _ ∧ k_ ≠ gb522))) (fun _ hk => hk.1.2) (.int .i64 t527)) (fun _ hk => hk.1.2) (.slice Ao15 t528.length co15)) (fun _ hk => hk.1.2) (.slice Ao16 t531.length co16)) (fun _ hk => hk.2) (.int .i64 t547)) (fun _ hk => hk.2) (.slice Ao38 t548.length co38)) (fun _ hk => hk.2) (.slice Ao40 t551.length co40)) (fun _ hk => ⟨hk.1.1.1.1.1.1, ⟨hk.1.1.1.1.1.2.1, ⟨hk.1.1.1.2, hk.1.1.2⟩⟩⟩), by (with_reducible repeat (first | apply Kd.R_alloc | apply Kd.R_drewN | apply Kd.R_drew)); exact Kd.R_mono (Kd.R_far (p := ⟨gb522, 2, none⟩) (Kd.R_far (p := ⟨gb522, 1, none⟩) (Kd.R_far (p := ⟨gb522, 0, none⟩) (Kd.R_far (p := ⟨gb521, 2, none⟩) (Kd.R_far (p := ⟨gb521, 1, none⟩) (Kd.R_far (p := ⟨gb521, 0, none⟩) (Kd.R_types (Kd.R_types HO550.out BK521.out (by decide)) BK522.out (by decide)) (fun _ hk => hk.1.2) (.int .i64 t527)) (fun _ hk => hk.1.2) (.slice Ao15 t528.length co15)) (fun _ hk => hk.1.2) (.slice Ao16 t531.length co16)) (fun _ hk => hk.2) (.int .i64 t547)) (fun _ hk => hk.2) (.slice Ao38 t548.length co38)) (fun _ hk => hk.2) (.slice Ao40 t551.length co40)) (fun _ hk => ⟨hk.1.1.1.1, hk.1.1.2⟩), by (with_reducible repeat (first | apply Kd.N_alloc | apply Kd.N_drewN | apply Kd.N_drew)); exact Kd.N_mono (Kd.N_far (p := ⟨gb522, 2, none⟩) (Kd.N_far (p := ⟨gb522, 1, none⟩) (Kd.N_far (p := ⟨gb522, 0, none⟩) (Kd.N_far (p := ⟨gb521, 2, none⟩) (Kd.N_far (p := ⟨gb521, 1, none⟩) (Kd.N_far (p := ⟨gb521, 0, none⟩) (Kd.N_mono (Kd.N_mono HO553.out (fun k_ hk => (⟨hk, hk.2.2.2.2.1⟩ : _ ∧ k_ ≠ gb521))) (fun k_ hk => (⟨hk, hk.1.2.2.2.2.2.1⟩ : _ ∧ k_ ≠ gb522))) (fun _ hk => hk.1.2) (.int .i64 t527)) (fun _ hk => hk.1.2) (.slice Ao15 t528.length co15)) (fun _ hk => hk.1.2) (.slice Ao16 t531.length co16)) (fun _ hk => hk.2) (.int .i64 t547)) (fun _ hk => hk.2) (.slice Ao38 t548.length co38)) (fun _ hk => hk.2) (.slice Ao40 t551.length co40)) (fun _ hk => ⟨hk.1.1.1, ⟨hk.1.1.2.2.1, ⟨hk.1.1.2.2.2.1, hk.1.1.2.1⟩⟩⟩), by repeat (first | (with_reducible first | exact HB.out | apply below_alloc | apply pw_below_drewN | apply below_drew1 | refine below_set ?_ (IsS58.ge HI526.out) | refine below_set ?_ GE521.out | refine below_set ?_ GE522.out | refine below_set ?_ GE536.out) | exact HB.out)⟩

-- NOT PRINTED: function 53 (impl_Type_53)

-- NOT PRINTED: function 37 (impl_Type_37)

/-! ### impl_isPlain: function 39 -/
def impl_isPlain.f (a0_0 : Int) (l0_1 : List ByteArray) (l0_2 : List (S27)) : Option (Bool) := if a0_0 = 1 then (some true) else (some (a0_0 == 2))
theorem impl_isPlain.calls (a0_0 : Int) (A0_1 : Option Addr) (c0_1 : Nat) (l0_1 : List ByteArray) (A0_2 : Option Addr) (c0_2 : Nat) (l0_2 : List (S27)) (r : Bool) (w : World) (hr0_1 : Kd.C Kd.string w A0_1 l0_1.length l0_1) (hc0_1 : l0_1.length ≤ c0_1) (hr0_2 : Kd.C k27 w A0_2 l0_2.length l0_2) (hc0_2 : l0_2.length ≤ c0_2) (h : impl_isPlain.f a0_0 l0_1 l0_2 = some r) :
  Calls Try.prog 39 #[.agg #[.int .i64 a0_0, .slice A0_1 l0_1.length c0_1, .slice A0_2 l0_2.length c0_2]] w fun e w' => e = .returned (.bool r) ∧ Below w.heap.size w w' := by
 have hu27 := Try.underlying27
 have HR0_1 := Aside0.mk hr0_1
 have HC0_1 := Aside0.mk hc0_1
 clear hr0_1 hc0_1
 have HR0_2 := Aside0.mk hr0_2
 have HC0_2 := Aside0.mk hc0_2
 clear hr0_2 hc0_2
 have HB := Aside0.mk (Below.refl w.heap.size w)
 have H : (if a0_0 = 1 then (some true) else (some (a0_0 == 2))) = some r := h
 clear h
 by_cases c2 : a0_0 = 1
 case neg =>
  rw [if_neg c2] at H
  have c2b0 : (a0_0 == 1) = false := beq_eq_false_iff_ne.mpr c2
  have c2b1 : (a0_0 != 1) = true := bne_iff_ne.mpr c2
  obtain rfl := Option.some.inj H
  go_enter Try.func39, Try.ntmps39
  go_wp2_with (first | ((with_reducible refine gate_dst (N := 1) rfl ?_); refine box_event ?hg (N := 1) ?hd (cs := #[.int .i64 a0_0, .slice A0_1 l0_1.length c0_1, .slice A0_2 l0_2.length c0_2]) (t := 27) ?hr ?_; (case hd => rfl); (case hg => rfl); (case hr => exact hrw); intro gb556 hg w5 hbox hb; have n0_ := Aside0.mk (below_step blw hb); have n1_ := Aside0.mk (hbox); have n2_ := Aside0.mk ((by rw [hg]; exact (below_size blw) : w.heap.size ≤ gb556)); have n3_ := n2_; clear HB; revert n0_ n1_ n2_ n3_; intro HB BK556 GW556 GE556; clear hb hbox hg; obtain ⟨hcz6_0, hcz6_1, hcz6_2⟩ := cls3 BK556.out; obtain ⟨hfz6_0, hfz6_1, hfz6_2⟩ := frz3 BK556.out))
  go_ret
  exact ⟨rfw, blw⟩
 rw [if_pos c2] at H
 have c2b0 : (a0_0 == 1) = true := beq_iff_eq.mpr c2
 have c2b1 : (a0_0 != 1) = false := bne_eq_false_iff_eq.mpr c2
 clear c2
 obtain rfl := Option.some.inj H
 go_enter Try.func39, Try.ntmps39
 go_wp2_with (first | ((with_reducible refine gate_dst (N := 1) rfl ?_); refine box_event ?hg (N := 1) ?hd (cs := #[.int .i64 a0_0, .slice A0_1 l0_1.length c0_1, .slice A0_2 l0_2.length c0_2]) (t := 27) ?hr ?_; (case hd => rfl); (case hg => rfl); (case hr => exact hrw); intro gb556 hg w3 hbox hb; have n0_ := Aside0.mk (below_step blw hb); have n1_ := Aside0.mk (hbox); have n2_ := Aside0.mk ((by rw [hg]; exact (below_size blw) : w.heap.size ≤ gb556)); have n3_ := n2_; clear HB; revert n0_ n1_ n2_ n3_; intro HB BK556 GW556 GE556; clear hb hbox hg; obtain ⟨hcz4_0, hcz4_1, hcz4_2⟩ := cls3 BK556.out; obtain ⟨hfz4_0, hfz4_1, hfz4_2⟩ := frz3 BK556.out))
 go_ret
 exact ⟨rfw, blw⟩

/-! ### impl_IsRow_1: function 38 -/
def impl_IsRow_1.f (a0_0 : Int) (l0_1 : List ByteArray) (l0_2 : List (S27)) : Option (Bool) := (impl_isPlain.f a0_0 l0_1 l0_2).bind fun t558 => (some (!t558))
theorem impl_IsRow_1.calls (a0_0 : Int) (A0_1 : Option Addr) (c0_1 : Nat) (l0_1 : List ByteArray) (A0_2 : Option Addr) (c0_2 : Nat) (l0_2 : List (S27)) (r : Bool) (w : World) (hr0_1 : Kd.C Kd.string w A0_1 l0_1.length l0_1) (hc0_1 : l0_1.length ≤ c0_1) (hr0_2 : Kd.C k27 w A0_2 l0_2.length l0_2) (hc0_2 : l0_2.length ≤ c0_2) (h : impl_IsRow_1.f a0_0 l0_1 l0_2 = some r) :
  Calls Try.prog 38 #[.agg #[.int .i64 a0_0, .slice A0_1 l0_1.length c0_1, .slice A0_2 l0_2.length c0_2]] w fun e w' => e = .returned (.bool r) ∧ Below w.heap.size w w' := by
 have hu27 := Try.underlying27
 have HR0_1 := Aside0.mk hr0_1
 have HC0_1 := Aside0.mk hc0_1
 clear hr0_1 hc0_1
 have HR0_2 := Aside0.mk hr0_2
 have HC0_2 := Aside0.mk hc0_2
 clear hr0_2 hc0_2
 have HB := Aside0.mk (Below.refl w.heap.size w)
 have H : ((impl_isPlain.f a0_0 l0_1 l0_2).bind fun t558 => (some (!t558))) = some r := h
 clear h
 replace H := Option.bind_eq_some_iff.mp H
 obtain ⟨t558, A20, H⟩ := H
 replace H : (some (!t558)) = some r := H
 have A2 := Aside0.mk A20
 clear A20
 obtain rfl := Option.some.inj H
 go_enter Try.func38, Try.ntmps38
 go_wp2_with (first | ((with_reducible refine gate_dst (N := 1) rfl ?_); refine box_event ?hg (N := 1) ?hd (cs := #[.int .i64 a0_0, .slice A0_1 l0_1.length c0_1, .slice A0_2 l0_2.length c0_2]) (t := 27) ?hr ?_; (case hd => rfl); (case hg => rfl); (case hr => exact hrw); intro gb557 hg w3 hbox hb; have n0_ := Aside0.mk (below_step blw hb); have n1_ := Aside0.mk (hbox); have n2_ := Aside0.mk ((by rw [hg]; exact (below_size blw) : w.heap.size ≤ gb557)); have n3_ := n2_; clear HB; revert n0_ n1_ n2_ n3_; intro HB BK557 GW557 GE557; clear hb hbox hg; obtain ⟨hcz4_0, hcz4_1, hcz4_2⟩ := cls3 BK557.out; obtain ⟨hfz4_0, hfz4_1, hfz4_2⟩ := frz3 BK557.out) | ((with_reducible refine gate_callee (f := 39) rfl ?_); refine goesL_ (some 4) rfl rfl Try.func39 kr rfl #[.agg #[.int .i64 a0_0, .slice A0_1 l0_1.length c0_1, .slice A0_2 l0_2.length c0_2]] rfl mpw ?_; (with_reducible refine (impl_isPlain.calls a0_0 _ _ l0_1 _ _ l0_2 t558 _ ?side1 ?side2 ?side3 ?side4 A2.out).mono ?_); (case side1 => have X_ := HR0_1; exact cbl); (case side2 => exact HC0_1.out); (case side3 => have X_ := HR0_2; exact cbl); (case side4 => exact HC0_2.out); rintro e w5 ⟨rfl, hb⟩; refine ⟨_, rfl, ?_⟩; have n0_ := Aside0.mk (blk_below (g := gb557) (o := .cells #[.int .i64 a0_0, .slice A0_1 l0_1.length c0_1, .slice A0_2 l0_2.length c0_2] 27 (0, 0)) bkw hb); have n1_ := Aside0.mk (below_step blw hb); clear BK557; clear HB; revert n0_ n1_; intro BK557 HB; (try clear hb); (try clear hb2); (try clear hk); (try clear hi)))
 go_ret
 exact ⟨rfw, blw⟩

/-! ### slices_IndexFunc_Type_of_IsRow_1: function 85 -/
def slices_IndexFunc_Type_of_IsRow_1.l0 : Nat → List (S27) → Int → Int → Option (Int)
 | 0, _, _, _ => none
 | k + 1, x0, x7, x8 => if x8 < x7 then (if 0 ≤ x8 then (if x8 < (x0.length : Int) then ((impl_IsRow_1.f ((rd_T27 x0 x8).f0) ((rd_T27 x0 x8).f1) ((rd_T27 x0 x8).f2)).bind fun t560 => (if t560 = true then (some x8) else (slices_IndexFunc_Type_of_IsRow_1.l0 k x0 x7 (wrap64 (x8 + 1))))) else (none)) else (none)) else (some (-1))
def slices_IndexFunc_Type_of_IsRow_1.f (k : Nat) (l0 : List (S27))  : Option (Int) := slices_IndexFunc_Type_of_IsRow_1.l0 k l0 (l0.length : Int) 0
theorem slices_IndexFunc_Type_of_IsRow_1.calls (k : Nat) (A0 : Option Addr) (c0 : Nat) (l0 : List (S27))  (r : Int) (w : World) (hr0 : Kd.C k27 w A0 l0.length l0) (hc0 : l0.length ≤ c0) (h : slices_IndexFunc_Type_of_IsRow_1.f k l0 = some r) :
  Calls Try.prog 53 #[.slice A0 l0.length c0, .func (.func 38) #[] #[]] w fun e w' => e = .returned (.int .i64 r) ∧ Below w.heap.size w w' := by
 have hu27 := Try.underlying27
 have HR0 := Aside0.mk hr0
 have HC0 := Aside0.mk hc0
 clear hr0 hc0
 have HB := Aside0.mk (Below.refl w.heap.size w)
 have H : (slices_IndexFunc_Type_of_IsRow_1.l0 k l0 (l0.length : Int) 0) = some r := h
 clear h
 have H' := Aside0.mk H
 clear H
 go_enter Try.func53, Try.ntmps53
 go_wp2
 go_loopg [8] k (fun kq v8 w' => ∃ (x8_1 : Int), v8 = .int .i64 x8_1 ∧ Aside0 (slices_IndexFunc_Type_of_IsRow_1.l0 kq l0 (l0.length : Int) x8_1 = some r) ∧ Aside0 (kq ≤ k) ∧ Aside0 (Below w.heap.size w w'))
 case atStart => exact ⟨(0), rfs, H', ⟨Nat.le_refl _⟩, ⟨blw⟩⟩
 case round =>
  clear H'
  try clear p2
  obtain ⟨x8_1, rfl, HA, HK1, HB⟩ := hrel
  cases gk with
  | zero => exact absurd HA.out (by simp [slices_IndexFunc_Type_of_IsRow_1.l0])
  | succ k1 =>
   have H := HA.out
   clear HA
   simp only [slices_IndexFunc_Type_of_IsRow_1.l0] at H
   by_cases c3 : x8_1 < (l0.length : Int)
   case neg =>
    rw [if_neg c3] at H
    have c3b0 : decide (x8_1 < (l0.length : Int)) = false := decide_eq_false c3
    clear c3
    obtain rfl := Option.some.inj H
    go_wp2
    go_ret
    exact ⟨rfw, blw⟩
   rw [if_pos c3] at H
   have c3b0 : decide (x8_1 < (l0.length : Int)) = true := decide_eq_true c3
   clear c3
   by_cases c4 : 0 ≤ x8_1
   case neg =>
    rw [if_neg c4] at H
    exact absurd H (by simp)
   rw [if_pos c4] at H
   have c4b0 : decide (0 ≤ x8_1) = true := decide_eq_true c4
   clear c4
   by_cases c5 : x8_1 < (l0.length : Int)
   case neg =>
    rw [if_neg c5] at H
    exact absurd H (by simp)
   rw [if_pos c5] at H
   have c5b0 : decide (x8_1 < (l0.length : Int)) = true := decide_eq_true c5
   clear c5
   replace H := Option.bind_eq_some_iff.mp H
   obtain ⟨t560, A60, H⟩ := H
   replace H : (if t560 = true then (some x8_1) else (slices_IndexFunc_Type_of_IsRow_1.l0 k1 l0 (l0.length : Int) (wrap64 (x8_1 + 1)))) = some r := H
   have A6 := Aside0.mk A60
   clear A60
   have HC7 := Aside0.mk H
   clear H
   have p559 : 0 ≤ (x8_1 : Int) := of_decide_eq_true asw
   have q559 : x8_1 < (l0.length : Int) := of_decide_eq_true asw
   obtain ⟨ad559, A559_1, c559_1, A559_2, c559_2, e559, hx559_0, hx559_1, hx559_2, hl559_1, hi559_1, hl559_2, hi559_2⟩ := at_T27 HR0.out x8_1 p559 q559
   cases e559
   replace hx559_0 := upw HB.out hx559_0
   replace hx559_1 := upw HB.out hx559_1
   replace hx559_2 := upw HB.out hx559_2
   have HR559_1 := Aside0.mk hi559_1
   have HC559_1 := Aside0.mk hl559_1
   clear hi559_1 hl559_1
   have HR559_2 := Aside0.mk hi559_2
   have HC559_2 := Aside0.mk hl559_2
   clear hi559_2 hl559_2
   replace p559 := eq_true p559
   replace q559 := eq_true q559
   go_upto_if 16 with (first | ((with_reducible refine gate_calleev (t := 11) rfl ?_); refine goesV_ 11 (some 16) rfl rfl rfl Try.func38 kr rfl #[.agg #[.int .i64 ((rd_T27 l0 x8_1).f0), .slice A559_1 ((rd_T27 l0 x8_1).f1).length c559_1, .slice A559_2 ((rd_T27 l0 x8_1).f2).length c559_2]] rfl mpw ?_; (with_reducible refine (impl_IsRow_1.calls ((rd_T27 l0 x8_1).f0) _ _ ((rd_T27 l0 x8_1).f1) _ _ ((rd_T27 l0 x8_1).f2) t560 _ ?side1 ?side2 ?side3 ?side4 A6.out).mono ?_); (case side1 => have X_ := HR559_1; exact cbl); (case side2 => exact HC559_1.out); (case side3 => have X_ := HR559_2; exact cbl); (case side4 => exact HC559_2.out); rintro e w8 ⟨rfl, hb⟩; refine ⟨_, rfl, ?_⟩; have n0_ := Aside0.mk (below_step blw hb); clear HB; revert n0_; intro HB; (try clear hb); (try clear hb2); (try clear hk); (try clear hi)))
   have H := HC7.out
   clear HC7
   by_cases c9 : t560 = true
   ·subst c9
    have H1 : (some x8_1) = some r := by rw [if_pos rfl] at H; exact H
    clear H
    have H := H1
    clear H1
    obtain rfl := Option.some.inj H
    go_wp2
    go_ret
    exact ⟨rfw, blw⟩
   replace c9 := Bool.eq_false_iff.mpr c9
   subst c9
   have H1 : (slices_IndexFunc_Type_of_IsRow_1.l0 k1 l0 (l0.length : Int) (wrap64 (x8_1 + 1))) = some r := by rw [if_neg (show ¬ (false = true) by decide)] at H; exact H
   clear H
   have H := H1
   clear H1
   have H' := Aside0.mk H
   clear H
   go_wp2
   go_roundg k1
   case measure => have := HK1.out; omega
   case rel => exact ⟨(wrap64 (x8_1 + 1)), rfs, H', ⟨by have := HK1.out; omega⟩, ⟨blw⟩⟩

/-! ### slices_ContainsFunc_Type_of_IsRow_1: function 82 -/
def slices_ContainsFunc_Type_of_IsRow_1.f (k : Nat) (l0 : List (S27))  : Option (Bool) := (slices_IndexFunc_Type_of_IsRow_1.f k l0).bind fun t561 => (some (decide (t561 ≥ 0)))
theorem slices_ContainsFunc_Type_of_IsRow_1.calls (k : Nat) (A0 : Option Addr) (c0 : Nat) (l0 : List (S27))  (r : Bool) (w : World) (hr0 : Kd.C k27 w A0 l0.length l0) (hc0 : l0.length ≤ c0) (h : slices_ContainsFunc_Type_of_IsRow_1.f k l0 = some r) :
  Calls Try.prog 37 #[.slice A0 l0.length c0, .func (.func 38) #[] #[]] w fun e w' => e = .returned (.bool r) ∧ Below w.heap.size w w' := by
 have HR0 := Aside0.mk hr0
 have HC0 := Aside0.mk hc0
 clear hr0 hc0
 have HB := Aside0.mk (Below.refl w.heap.size w)
 have H : ((slices_IndexFunc_Type_of_IsRow_1.f k l0).bind fun t561 => (some (decide (t561 ≥ 0)))) = some r := h
 clear h
 replace H := Option.bind_eq_some_iff.mp H
 obtain ⟨t561, A30, H⟩ := H
 replace H : (some (decide (t561 ≥ 0))) = some r := H
 have A3 := Aside0.mk A30
 clear A30
 obtain rfl := Option.some.inj H
 go_enter Try.func37, Try.ntmps37
 go_wp2_with (first | ((with_reducible refine gate_callee (f := 53) rfl ?_); refine goesL_ (some 7) rfl rfl Try.func53 kr rfl #[.slice A0 l0.length c0, .func (.func 38) #[] #[]] rfl mpw ?_; (with_reducible refine (slices_IndexFunc_Type_of_IsRow_1.calls k _ _ l0  t561 _ ?side1 ?side2 A3.out).mono ?_); (case side1 => have X_ := HR0; exact cbx); (case side2 => exact HC0.out); rintro e w4 ⟨rfl, hb⟩; refine ⟨_, rfl, ?_⟩; have n0_ := Aside0.mk (below_step blw hb); clear HB; revert n0_; intro HB; (try clear hb); (try clear hb2); (try clear hk); (try clear hi)))
 go_ret
 exact ⟨rfw, blw⟩

/-! ### impl_IsRow: function 18 -/
def impl_IsRow.f (k : Nat) (a0_0 : Int) (l0_1 : List ByteArray) (l0_2 : List (S27)) : Option (Bool) := (impl_IsValidType.f k a0_0 l0_1 l0_2).bind fun t563 => (if t563 = true then (if a0_0 = 3 then ((slices_ContainsFunc_Type_of_IsRow_1.f k l0_2).bind fun t564 => (some (!t564))) else (some false)) else (some false))
theorem impl_IsRow.calls (k : Nat) (a0_0 : Int) (A0_1 : Option Addr) (c0_1 : Nat) (l0_1 : List ByteArray) (A0_2 : Option Addr) (c0_2 : Nat) (l0_2 : List (S27)) (r : Bool) (w : World) (hr0_1 : Kd.C Kd.string w A0_1 l0_1.length l0_1) (hc0_1 : l0_1.length ≤ c0_1) (hr0_2 : Kd.C k27 w A0_2 l0_2.length l0_2) (hc0_2 : l0_2.length ≤ c0_2) (h : impl_IsRow.f k a0_0 l0_1 l0_2 = some r) :
  Calls Try.prog 18 #[.agg #[.int .i64 a0_0, .slice A0_1 l0_1.length c0_1, .slice A0_2 l0_2.length c0_2]] w fun e w' => e = .returned (.bool r) ∧ Below w.heap.size w w' := by
 have hu27 := Try.underlying27
 have HR0_1 := Aside0.mk hr0_1
 have HC0_1 := Aside0.mk hc0_1
 clear hr0_1 hc0_1
 have HR0_2 := Aside0.mk hr0_2
 have HC0_2 := Aside0.mk hc0_2
 clear hr0_2 hc0_2
 have HB := Aside0.mk (Below.refl w.heap.size w)
 have H : ((impl_IsValidType.f k a0_0 l0_1 l0_2).bind fun t563 => (if t563 = true then (if a0_0 = 3 then ((slices_ContainsFunc_Type_of_IsRow_1.f k l0_2).bind fun t564 => (some (!t564))) else (some false)) else (some false))) = some r := h
 clear h
 replace H := Option.bind_eq_some_iff.mp H
 obtain ⟨t563, A20, H⟩ := H
 replace H : (if t563 = true then (if a0_0 = 3 then ((slices_ContainsFunc_Type_of_IsRow_1.f k l0_2).bind fun t564 => (some (!t564))) else (some false)) else (some false)) = some r := H
 have A2 := Aside0.mk A20
 clear A20
 by_cases c3 : t563 = true
 case neg =>
  replace c3 := Bool.eq_false_iff.mpr c3
  subst c3
  have H1 : (some false) = some r := by rw [if_neg (show ¬ (false = true) by decide)] at H; exact H
  clear H
  have H := H1
  clear H1
  obtain rfl := Option.some.inj H
  go_enter Try.func18, Try.ntmps18
  go_wp2_with (first | ((with_reducible refine gate_dst (N := 1) rfl ?_); refine box_event ?hg (N := 1) ?hd (cs := #[.int .i64 a0_0, .slice A0_1 l0_1.length c0_1, .slice A0_2 l0_2.length c0_2]) (t := 27) ?hr ?_; (case hd => rfl); (case hg => rfl); (case hr => exact hrw); intro gb562 hg w15 hbox hb; have n0_ := Aside0.mk (below_step blw hb); have n1_ := Aside0.mk (hbox); have n2_ := Aside0.mk ((by rw [hg]; exact (below_size blw) : w.heap.size ≤ gb562)); have n3_ := n2_; clear HB; revert n0_ n1_ n2_ n3_; intro HB BK562 GW562 GE562; clear hb hbox hg; obtain ⟨hcz16_0, hcz16_1, hcz16_2⟩ := cls3 BK562.out; obtain ⟨hfz16_0, hfz16_1, hfz16_2⟩ := frz3 BK562.out) | ((with_reducible refine gate_callee (f := 9) rfl ?_); refine goesL_ (some 4) rfl rfl Try.func9 kr rfl #[.agg #[.int .i64 a0_0, .slice A0_1 l0_1.length c0_1, .slice A0_2 l0_2.length c0_2]] rfl mpw ?_; (with_reducible refine (impl_IsValidType.calls k a0_0 _ _ l0_1 _ _ l0_2 false _ ?side1 ?side2 ?side3 ?side4 A2.out).mono ?_); (case side1 => have X_ := HR0_1; exact cbl); (case side2 => exact HC0_1.out); (case side3 => have X_ := HR0_2; exact cbl); (case side4 => exact HC0_2.out); rintro e w17 ⟨rfl, hb⟩; refine ⟨_, rfl, ?_⟩; have n0_ := Aside0.mk (blk_below (g := gb562) (o := .cells #[.int .i64 a0_0, .slice A0_1 l0_1.length c0_1, .slice A0_2 l0_2.length c0_2] 27 (0, 0)) bkw hb); have n1_ := Aside0.mk (below_step blw hb); clear BK562; clear HB; revert n0_ n1_; intro BK562 HB; (try clear hb); (try clear hb2); (try clear hk); (try clear hi)))
  go_ret
  exact ⟨rfw, blw⟩
 subst c3
 have H1 : (if a0_0 = 3 then ((slices_ContainsFunc_Type_of_IsRow_1.f k l0_2).bind fun t564 => (some (!t564))) else (some false)) = some r := by rw [if_pos rfl] at H; exact H
 clear H
 have H := H1
 clear H1
 by_cases c4 : a0_0 = 3
 case neg =>
  rw [if_neg c4] at H
  have c4b0 : (a0_0 == 3) = false := beq_eq_false_iff_ne.mpr c4
  have c4b1 : (a0_0 != 3) = true := bne_iff_ne.mpr c4
  obtain rfl := Option.some.inj H
  go_enter Try.func18, Try.ntmps18
  go_wp2_with (first | ((with_reducible refine gate_dst (N := 1) rfl ?_); refine box_event ?hg (N := 1) ?hd (cs := #[.int .i64 a0_0, .slice A0_1 l0_1.length c0_1, .slice A0_2 l0_2.length c0_2]) (t := 27) ?hr ?_; (case hd => rfl); (case hg => rfl); (case hr => exact hrw); intro gb562 hg w11 hbox hb; have n0_ := Aside0.mk (below_step blw hb); have n1_ := Aside0.mk (hbox); have n2_ := Aside0.mk ((by rw [hg]; exact (below_size blw) : w.heap.size ≤ gb562)); have n3_ := n2_; clear HB; revert n0_ n1_ n2_ n3_; intro HB BK562 GW562 GE562; clear hb hbox hg; obtain ⟨hcz12_0, hcz12_1, hcz12_2⟩ := cls3 BK562.out; obtain ⟨hfz12_0, hfz12_1, hfz12_2⟩ := frz3 BK562.out) | ((with_reducible refine gate_callee (f := 9) rfl ?_); refine goesL_ (some 4) rfl rfl Try.func9 kr rfl #[.agg #[.int .i64 a0_0, .slice A0_1 l0_1.length c0_1, .slice A0_2 l0_2.length c0_2]] rfl mpw ?_; (with_reducible refine (impl_IsValidType.calls k a0_0 _ _ l0_1 _ _ l0_2 true _ ?side1 ?side2 ?side3 ?side4 A2.out).mono ?_); (case side1 => have X_ := HR0_1; exact cbl); (case side2 => exact HC0_1.out); (case side3 => have X_ := HR0_2; exact cbl); (case side4 => exact HC0_2.out); rintro e w13 ⟨rfl, hb⟩; refine ⟨_, rfl, ?_⟩; have n0_ := Aside0.mk (blk_below (g := gb562) (o := .cells #[.int .i64 a0_0, .slice A0_1 l0_1.length c0_1, .slice A0_2 l0_2.length c0_2] 27 (0, 0)) bkw hb); have n1_ := Aside0.mk (below_step blw hb); clear BK562; clear HB; revert n0_ n1_; intro BK562 HB; (try clear hb); (try clear hb2); (try clear hk); (try clear hi); obtain ⟨hcz14_0, hcz14_1, hcz14_2⟩ := cls3 BK562.out; obtain ⟨hfz14_0, hfz14_1, hfz14_2⟩ := frz3 BK562.out))
  go_ret
  exact ⟨rfw, blw⟩
 rw [if_pos c4] at H
 have c4b0 : (a0_0 == 3) = true := beq_iff_eq.mpr c4
 have c4b1 : (a0_0 != 3) = false := bne_eq_false_iff_eq.mpr c4
 clear c4
 replace H := Option.bind_eq_some_iff.mp H
 obtain ⟨t564, A50, H⟩ := H
 replace H : (some (!t564)) = some r := H
 have A5 := Aside0.mk A50
 clear A50
 obtain rfl := Option.some.inj H
 go_enter Try.func18, Try.ntmps18
 go_wp2_with (first | ((with_reducible refine gate_dst (N := 1) rfl ?_); refine box_event ?hg (N := 1) ?hd (cs := #[.int .i64 a0_0, .slice A0_1 l0_1.length c0_1, .slice A0_2 l0_2.length c0_2]) (t := 27) ?hr ?_; (case hd => rfl); (case hg => rfl); (case hr => exact hrw); intro gb562 hg w6 hbox hb; have n0_ := Aside0.mk (below_step blw hb); have n1_ := Aside0.mk (hbox); have n2_ := Aside0.mk ((by rw [hg]; exact (below_size blw) : w.heap.size ≤ gb562)); have n3_ := n2_; clear HB; revert n0_ n1_ n2_ n3_; intro HB BK562 GW562 GE562; clear hb hbox hg; obtain ⟨hcz7_0, hcz7_1, hcz7_2⟩ := cls3 BK562.out; obtain ⟨hfz7_0, hfz7_1, hfz7_2⟩ := frz3 BK562.out) | ((with_reducible refine gate_callee (f := 9) rfl ?_); refine goesL_ (some 4) rfl rfl Try.func9 kr rfl #[.agg #[.int .i64 a0_0, .slice A0_1 l0_1.length c0_1, .slice A0_2 l0_2.length c0_2]] rfl mpw ?_; (with_reducible refine (impl_IsValidType.calls k a0_0 _ _ l0_1 _ _ l0_2 true _ ?side1 ?side2 ?side3 ?side4 A2.out).mono ?_); (case side1 => have X_ := HR0_1; exact cbl); (case side2 => exact HC0_1.out); (case side3 => have X_ := HR0_2; exact cbl); (case side4 => exact HC0_2.out); rintro e w8 ⟨rfl, hb⟩; refine ⟨_, rfl, ?_⟩; have n0_ := Aside0.mk (blk_below (g := gb562) (o := .cells #[.int .i64 a0_0, .slice A0_1 l0_1.length c0_1, .slice A0_2 l0_2.length c0_2] 27 (0, 0)) bkw hb); have n1_ := Aside0.mk (below_step blw hb); clear BK562; clear HB; revert n0_ n1_; intro BK562 HB; (try clear hb); (try clear hb2); (try clear hk); (try clear hi); obtain ⟨hcz9_0, hcz9_1, hcz9_2⟩ := cls3 BK562.out; obtain ⟨hfz9_0, hfz9_1, hfz9_2⟩ := frz3 BK562.out) | (go_at_call 37; (with_reducible refine (slices_ContainsFunc_Type_of_IsRow_1.calls k _ _ l0_2  t564 _ ?side1 ?side2 A5.out).mono ?_); (case side1 => have X_ := HR0_2; exact cbl); (case side2 => exact HC0_2.out); rintro e w10 ⟨rfl, hb⟩; have n0_ := Aside0.mk (blk_below (g := gb562) (o := .cells #[.int .i64 a0_0, .slice A0_1 l0_1.length c0_1, .slice A0_2 l0_2.length c0_2] 27 (0, 0)) bkw hb); have n1_ := Aside0.mk (below_step blw hb); clear BK562; clear HB; revert n0_ n1_; intro BK562 HB; (try clear hb); (try clear hb2); (try clear hk); (try clear hi)))
 go_ret
 exact ⟨rfw, blw⟩

end Go.Proofs.Ytaakdfbfgabdbaa.Pt
