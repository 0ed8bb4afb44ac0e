/- Printed by a program of this session: what functions of the translation come to, each contract as it stands. No condition. -/
import Derived.Test.YtipjapiifnoimaaPe0
import Derived.Test.YtipjapiifnoimaaRead
namespace Go.Proofs.Ytipjapiifnoimaa.Pe
open Go.RowKit Go.Proofs.Ytipjapiifnoimaa.Ext Go.Proofs.YtipjapiifnoimaaW.PrintWords Go.Proofs.YtipjapiifnoimaaW.PrintLast Go.Proofs.YtipjapiifnoimaaW.PrintMore Go.Proofs.Ytipjapiifnoimaa
set_option linter.unusedVariables false
set_option linter.unusedSimpArgs false

theorem fold37 : ∀ (w : World) (x : S37) (cs : List Value), (F37 k37).K w x cs → k37.K w x cs := by
  intro w x cs h
  obtain ⟨_, _, rfl, rfl, ⟨_, _, rfl, rfl, ⟨_, _, rfl, ⟨A2, c2, rfl, l2, g2⟩, ⟨A3, c3, rfl, l3, g3⟩⟩⟩⟩ := h
  exact k37_mk w x l2 g2 l3 g3
theorem op37 : ∀ n, Rd.Op Try.prog n 37 k37 W37 := by
  intro n
  induction n using Nat.strongRecOn with
  | _ n ih =>
  exact Rd.Op.imp (d := F37 k37) fold37 (fun x h => W37.mk h.1 h.2.1 h.2.2.1 h.2.2.2.1 h.2.2.2.2) (Rd.Op.iso (g := fun p => ⟨p.1, p.2.1, p.2.2.1, p.2.2.2⟩) (fun _ => rfl) (Rd.Op.struct Try.underlying37 (by kernel_rfl) (fun j0 hj0 => (Rd.OpF.cons rfl (by kernel_rfl) (Rd.Op.int Try.underlying3) (Rd.OpF.cons rfl (by kernel_rfl) (Rd.Op.int Try.underlying3) (Rd.OpF.cons rfl (by kernel_rfl) (Rd.Op.slice Try.underlying22 (by kernel_rfl) (fun j1 hj1 => (Rd.Op.string Try.underlying9))) (Rd.OpF.one rfl (by kernel_rfl) (Rd.Op.slice Try.underlying35 (by kernel_rfl) (fun j1 hj1 => ih j1 (by omega))))))))))
theorem op120 : ∀ n, Rd.Op Try.prog n 120 k120 W120 := by
  intro n
  exact Rd.Op.imp (d := k120) (fun _ _ _ h => h) (fun x h => h) (Rd.Op.iso (g := fun p => ⟨p.1, p.2⟩) (fun _ => rfl) (Rd.Op.struct Try.underlying120 (by kernel_rfl) (fun j0 hj0 => (Rd.OpF.cons rfl (by kernel_rfl) (Rd.Op.string Try.underlying9) (Rd.OpF.one rfl (by kernel_rfl) (Rd.Op.slice Try.underlying35 (by kernel_rfl) (fun j1 hj1 => (op37 _))))))))
theorem fold42 : ∀ (w : World) (x : S42) (cs : List Value), (F42 k42).K w x cs → k42.K w x cs := by
  intro w x cs h
  obtain ⟨_, _, rfl, rfl, ⟨_, _, rfl, rfl, ⟨_, _, rfl, ⟨A2, c2, rfl, l2, g2⟩, ⟨A3, c3, rfl, l3, g3⟩⟩⟩⟩ := h
  exact k42_mk w x l2 g2 l3 g3
theorem op42 : ∀ n, Rd.Op Try.prog n 42 k42 W42 := by
  intro n
  induction n using Nat.strongRecOn with
  | _ n ih =>
  exact Rd.Op.imp (d := F42 k42) fold42 (fun x h => W42.mk h.1 h.2.1 h.2.2.1 h.2.2.2.1 h.2.2.2.2) (Rd.Op.iso (g := fun p => ⟨p.1, p.2.1, p.2.2.1, p.2.2.2⟩) (fun _ => rfl) (Rd.Op.struct Try.underlying42 (by kernel_rfl) (fun j0 hj0 => (Rd.OpF.cons rfl (by kernel_rfl) (Rd.Op.int Try.underlying3) (Rd.OpF.cons rfl (by kernel_rfl) (Rd.Op.int Try.underlying3) (Rd.OpF.cons rfl (by kernel_rfl) (Rd.Op.slice Try.underlying22 (by kernel_rfl) (fun j1 hj1 => (Rd.Op.string Try.underlying9))) (Rd.OpF.one rfl (by kernel_rfl) (Rd.Op.slice Try.underlying40 (by kernel_rfl) (fun j1 hj1 => ih j1 (by omega))))))))))
theorem op101 : ∀ n, Rd.Op Try.prog n 101 k101 W101 := by
  intro n
  exact Rd.Op.imp (d := k101) (fun _ _ _ h => h) (fun x h => h) (Rd.Op.iso (g := fun p => ⟨p.1, p.2⟩) (fun _ => rfl) (Rd.Op.struct Try.underlying101 (by kernel_rfl) (fun j0 hj0 => (Rd.OpF.cons rfl (by kernel_rfl) (Rd.Op.string Try.underlying9) (Rd.OpF.one rfl (by kernel_rfl) (Rd.Op.slice Try.underlying40 (by kernel_rfl) (fun j1 hj1 => (op42 _))))))))
theorem op61 : ∀ n, Rd.Op Try.prog n 61 k61 W61 := by
  intro n
  exact Rd.Op.imp (d := k61) (fun _ _ _ h => h) (fun x h => h) (Rd.Op.iso (g := fun p => ⟨p⟩) (fun _ => rfl) (Rd.Op.struct Try.underlying61 (by kernel_rfl) (fun j0 hj0 => (Rd.OpF.one rfl (by kernel_rfl) (Rd.Op.slice Try.underlying59 (by kernel_rfl) (fun j1 hj1 => (op120 _)))))))
theorem op66 : ∀ n, Rd.Op Try.prog n 66 k66 W66 := by
  intro n
  exact Rd.Op.imp (d := k66) (fun _ _ _ h => h) (fun x h => h) (Rd.Op.iso (g := fun p => ⟨p⟩) (fun _ => rfl) (Rd.Op.struct Try.underlying66 (by kernel_rfl) (fun j0 hj0 => (Rd.OpF.one rfl (by kernel_rfl) (Rd.Op.slice Try.underlying64 (by kernel_rfl) (fun j1 hj1 => (op101 _)))))))
end Go.Proofs.Ytipjapiifnoimaa.Pe
