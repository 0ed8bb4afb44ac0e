/- Printed by a program of this session: what functions of the translation come to, each contract as it stands. No condition. -/
import Derived.Test.YtpkppeicceehcaaZEqualQueryPx0
import Derived.Test.YtpkppeicceehcaaZEqualQueryPxFTermM
namespace Go.Proofs.Ytpkppeicceehcaa.Px
open Go.RowKit Go.Proofs.Ytpkppeicceehcaa.Ext Go.Proofs.YtpkppeicceehcaaW.PrintWords Go.Proofs.YtpkppeicceehcaaW.PrintLast Go.Proofs.YtpkppeicceehcaaW.PrintMore Go.Proofs.Ytpkppeicceehcaa
set_option linter.unusedVariables false
set_option linter.unusedSimpArgs false

theorem op89 : ∀ n, Rd.Op Try.prog n 89 k89 W89 := by
  intro n
  exact Rd.Op.imp (d := k89) (fun _ _ _ h => h) (fun x h => h) (Rd.Op.iso (g := fun p => ⟨p.1, p.2⟩) (fun _ => rfl) (Rd.Op.struct Try.underlying89 (by kernel_rfl) (fun j0 hj0 => (Rd.OpF.cons rfl (by kernel_rfl) (Rd.Op.string Try.underlying9) (Rd.OpF.one rfl (by kernel_rfl) (Rd.Op.string Try.underlying9))))))
theorem fold65 : ∀ (w : World) (x : S65) (cs : List Value), (F65 k65).K w x cs → k65.K w x cs := by
  intro w x cs h
  obtain ⟨_, _, rfl, rfl, ⟨_, _, rfl, ⟨A1, c1, rfl, l1, g1⟩, ⟨A2, c2, rfl, l2, g2⟩⟩⟩ := h
  exact k65_mk w x l1 g1 l2 g2
theorem op65 : ∀ n, Rd.Op Try.prog n 65 k65 W65 := by
  intro n
  induction n using Nat.strongRecOn with
  | _ n ih =>
  exact Rd.Op.imp (d := F65 k65) fold65 (fun x h => W65.mk h.1 h.2.1 h.2.2.1 h.2.2.2) (Rd.Op.iso (g := fun p => ⟨p.1, p.2.1, p.2.2⟩) (fun _ => rfl) (Rd.Op.struct Try.underlying65 (by kernel_rfl) (fun j0 hj0 => (Rd.OpF.cons rfl (by kernel_rfl) (Rd.Op.int Try.underlying3) (Rd.OpF.cons rfl (by kernel_rfl) (Rd.Op.slice Try.underlying38 (by kernel_rfl) (fun j1 hj1 => (Rd.Op.string Try.underlying9))) (Rd.OpF.one rfl (by kernel_rfl) (Rd.Op.slice Try.underlying63 (by kernel_rfl) (fun j1 hj1 => ih j1 (by omega)))))))))
theorem fold68 : ∀ (w : World) (x : S68) (cs : List Value), (F68 k68).K w x cs → k68.K w x cs := by
  intro w x cs h
  obtain ⟨_, _, rfl, rfl, ⟨_, _, rfl, rfl, ⟨_, _, rfl, rfl, ⟨_, _, rfl, s3, ⟨_, _, rfl, ⟨A4, c4, rfl, l4, g4⟩, ⟨A5, c5, rfl, l5, g5⟩⟩⟩⟩⟩⟩ := h
  obtain ⟨A3_1, c3_1, A3_2, c3_2, rfl, l3_1, g3_1, l3_2, g3_2⟩ := k65_open s3
  exact k68_mk w x l3_1 g3_1 l3_2 g3_2 l4 g4 l5 g5
theorem op68 : ∀ n, Rd.Op Try.prog n 68 k68 W68 := by
  intro n
  induction n using Nat.strongRecOn with
  | _ n ih =>
  exact Rd.Op.imp (d := F68 k68) fold68 (fun x h => W68.mk h.1 h.2.1 h.2.2.1 h.2.2.2.1 h.2.2.2.2.1 h.2.2.2.2.2.1 h.2.2.2.2.2.2) (Rd.Op.iso (g := fun p => ⟨p.1, p.2.1, p.2.2.1, p.2.2.2.1, p.2.2.2.2.1, p.2.2.2.2.2⟩) (fun _ => rfl) (Rd.Op.struct Try.underlying68 (by kernel_rfl) (fun j0 hj0 => (Rd.OpF.cons rfl (by kernel_rfl) (Rd.Op.int Try.underlying3) (Rd.OpF.cons rfl (by kernel_rfl) (Rd.Op.string Try.underlying9) (Rd.OpF.cons rfl (by kernel_rfl) (Rd.Op.int Try.underlying3) (Rd.OpF.cons rfl (by kernel_rfl) (op65 _) (Rd.OpF.cons rfl (by kernel_rfl) (Rd.Op.slice Try.underlying38 (by kernel_rfl) (fun j1 hj1 => (Rd.Op.string Try.underlying9))) (Rd.OpF.one rfl (by kernel_rfl) (Rd.Op.slice Try.underlying66 (by kernel_rfl) (fun j1 hj1 => ih j1 (by omega))))))))))))
theorem fold71 : ∀ (w : World) (x : S71) (cs : List Value), (F71 k71).K w x cs → k71.K w x cs := by
  intro w x cs h
  obtain ⟨_, _, rfl, rfl, ⟨_, _, rfl, s1, ⟨_, _, rfl, ⟨A2, c2, rfl, l2, g2⟩, ⟨_, _, rfl, ⟨A3, c3, rfl, l3, g3⟩, s4⟩⟩⟩⟩ := h
  obtain ⟨A1_4, c1_4, A1_5, c1_5, A1_6, c1_6, A1_7, c1_7, rfl, l1_4, g1_4, l1_5, g1_5, l1_6, g1_6, l1_7, g1_7⟩ := k68_open s1
  obtain ⟨A4_0, c4_0, rfl, l4_0, g4_0⟩ := k24_open s4
  exact k71_mk w x l1_4 g1_4 l1_5 g1_5 l1_6 g1_6 l1_7 g1_7 l2 g2 l3 g3 l4_0 g4_0
theorem op71 : ∀ n, Rd.Op Try.prog n 71 k71 W71 := by
  intro n
  induction n using Nat.strongRecOn with
  | _ n ih =>
  exact Rd.Op.imp (d := F71 k71) fold71 (fun x h => W71.mk h.1 h.2.1 h.2.2.1 h.2.2.2.1.1 h.2.2.2.1.2 h.2.2.2.2.1 (fun y hy => (h.2.2.2.2.2 y hy).1) (fun y hy => (h.2.2.2.2.2 y hy).2.1) (fun y hy => (h.2.2.2.2.2 y hy).2.2)) (Rd.Op.iso (g := fun p => ⟨p.1, p.2.1, p.2.2.1, p.2.2.2.1, p.2.2.2.2⟩) (fun _ => rfl) (Rd.Op.struct Try.underlying71 (by kernel_rfl) (fun j0 hj0 => (Rd.OpF.cons rfl (by kernel_rfl) (Rd.Op.int Try.underlying3) (Rd.OpF.cons rfl (by kernel_rfl) (op68 _) (Rd.OpF.cons rfl (by kernel_rfl) (Rd.Op.slice Try.underlying38 (by kernel_rfl) (fun j1 hj1 => (Rd.Op.string Try.underlying9))) (Rd.OpF.cons rfl (by kernel_rfl) (Rd.Op.slice Try.underlying69 (by kernel_rfl) (fun j1 hj1 => ih j1 (by omega))) (Rd.OpF.one rfl (by kernel_rfl) (Rd.Op.iso (g := fun p => ⟨p⟩) (fun _ => rfl) (Rd.Op.struct Try.underlying24 (by kernel_rfl) (fun j1 hj1 => (Rd.OpF.one rfl (by kernel_rfl) (Rd.Op.slice Try.underlying22 (by kernel_rfl) (fun j2 hj2 => (Rd.Op.iso (g := fun p => ⟨p.1, p.2.1, p.2.2⟩) (fun _ => rfl) (Rd.Op.struct Try.underlying73 (by kernel_rfl) (fun j3 hj3 => (Rd.OpF.cons rfl (by kernel_rfl) (Rd.Op.slice Try.underlying62 (by kernel_rfl) (fun j4 hj4 => (op89 _))) (Rd.OpF.cons rfl (by kernel_rfl) (op68 _) (Rd.OpF.one rfl (by kernel_rfl) (ih j3 (by omega))))))))))))))))))))))
theorem op73 : ∀ n, Rd.Op Try.prog n 73 k73 W73 := by
  intro n
  exact Rd.Op.imp (d := k73) (fun _ _ _ h => h) (fun x h => h) (Rd.Op.iso (g := fun p => ⟨p.1, p.2.1, p.2.2⟩) (fun _ => rfl) (Rd.Op.struct Try.underlying73 (by kernel_rfl) (fun j0 hj0 => (Rd.OpF.cons rfl (by kernel_rfl) (Rd.Op.slice Try.underlying62 (by kernel_rfl) (fun j1 hj1 => (op89 _))) (Rd.OpF.cons rfl (by kernel_rfl) (op68 _) (Rd.OpF.one rfl (by kernel_rfl) (op71 _)))))))
theorem op24 : ∀ n, Rd.Op Try.prog n 24 k24 W24 := by
  intro n
  exact Rd.Op.imp (d := k24) (fun _ _ _ h => h) (fun x h => h) (Rd.Op.iso (g := fun p => ⟨p⟩) (fun _ => rfl) (Rd.Op.struct Try.underlying24 (by kernel_rfl) (fun j0 hj0 => (Rd.OpF.one rfl (by kernel_rfl) (Rd.Op.slice Try.underlying22 (by kernel_rfl) (fun j1 hj1 => (op73 _)))))))
end Go.Proofs.Ytpkppeicceehcaa.Px
