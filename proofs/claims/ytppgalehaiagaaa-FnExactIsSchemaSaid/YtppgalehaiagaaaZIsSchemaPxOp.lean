/- Printed by a program of this session: what functions of the translation come to, each contract as it stands. No condition. -/
import Derived.Test.YtppgalehaiagaaaZIsSchemaWLastM
import Derived.Test.YtppgalehaiagaaaZIsSchemaPxFStringM
namespace Go.Proofs.Ytppgalehaiagaaa.Px
open Go.RowKit Go.Proofs.Ytppgalehaiagaaa.Ext Go.Proofs.YtppgalehaiagaaaW.PrintWords Go.Proofs.YtppgalehaiagaaaW.PrintLast Go.Proofs.YtppgalehaiagaaaW.PrintMore Go.Proofs.Ytppgalehaiagaaa
set_option linter.unusedVariables false
set_option linter.unusedSimpArgs false

theorem fold25 : ∀ (w : World) (x : S25) (cs : List Value), (F25 k25).K w x cs → k25.K w x cs := by
  intro w x cs h
  obtain ⟨_, _, rfl, rfl, ⟨_, _, rfl, ⟨A1, c1, rfl, l1, g1⟩, ⟨A2, c2, rfl, l2, g2⟩⟩⟩ := h
  exact k25_mk w x l1 g1 l2 g2
theorem op25 : ∀ n, Rd.Op Try.prog n 25 k25 W25 := by
  intro n
  induction n using Nat.strongRecOn with
  | _ n ih =>
  exact Rd.Op.imp (d := F25 k25) fold25 (fun x h => W25.mk h.1 h.2.1 h.2.2.1 h.2.2.2) (Rd.Op.iso (g := fun p => ⟨p.1, p.2.1, p.2.2⟩) (fun _ => rfl) (Rd.Op.struct Try.underlying25 (by kernel_rfl) (fun j0 hj0 => (Rd.OpF.cons rfl (by kernel_rfl) (Rd.Op.int Try.underlying3) (Rd.OpF.cons rfl (by kernel_rfl) (Rd.Op.slice Try.underlying22 (by kernel_rfl) (fun j1 hj1 => (Rd.Op.string Try.underlying9))) (Rd.OpF.one rfl (by kernel_rfl) (Rd.Op.slice Try.underlying23 (by kernel_rfl) (fun j1 hj1 => ih j1 (by omega)))))))))
theorem op181 : ∀ n, Rd.Op Try.prog n 181 k181 W181 := by
  intro n
  exact Rd.Op.imp (d := k181) (fun _ _ _ h => h) (fun x h => h) (Rd.Op.iso (g := fun p => ⟨p.1, p.2⟩) (fun _ => rfl) (Rd.Op.struct Try.underlying181 (by kernel_rfl) (fun j0 hj0 => (Rd.OpF.cons rfl (by kernel_rfl) (Rd.Op.string Try.underlying9) (Rd.OpF.one rfl (by kernel_rfl) (op25 _))))))
theorem op62 : ∀ n, Rd.Op Try.prog n 62 k62 W62 := by
  intro n
  exact Rd.Op.imp (d := k62) (fun _ _ _ h => h) (fun x h => h) (Rd.Op.iso (g := fun p => ⟨p⟩) (fun _ => rfl) (Rd.Op.struct Try.underlying62 (by kernel_rfl) (fun j0 hj0 => (Rd.OpF.one rfl (by kernel_rfl) (Rd.Op.slice Try.underlying60 (by kernel_rfl) (fun j1 hj1 => (op181 _)))))))
end Go.Proofs.Ytppgalehaiagaaa.Px
