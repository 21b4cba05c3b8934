/- Each of the seat's struct types is read by the printed kind of its number. -/
import Derived.Test.YtafgogllekpmiaaPRx0
import Derived.Test.YtafgogllekpmiaaXOpen
namespace Go.Proofs.Ytafgogllekpmiaa.PR
open Go.RowKit Go.Proofs.YtafgogllekpmiaaW.PrintWords Go.Proofs.YtafgogllekpmiaaW.PrintLast Go.Proofs.YtafgogllekpmiaaW.PrintMore Go.Proofs.YtafgogllekpmiaaX
theorem opStation : Opn Try.prog k49 49 :=
  Opn.struct Try.underlying49 (by kernel_rfl) (OpnF.iso (fun x => ⟨x.1, x.2.1, x.2.2⟩) (fun _ => rfl) (OpnF.cons rfl (Opn.int (by kernel_rfl) (by kernel_rfl)) (OpnF.cons rfl (Opn.int (by kernel_rfl) (by kernel_rfl)) (OpnF.last rfl (Opn.int (by kernel_rfl) (by kernel_rfl))))))
theorem opSpan : Opn Try.prog k51 51 :=
  Opn.struct Try.underlying51 (by kernel_rfl) (OpnF.iso (fun x => ⟨x.1, x.2.1, x.2.2.1, x.2.2.2.1, x.2.2.2.2⟩) (fun _ => rfl) (OpnF.cons rfl (Opn.int (by kernel_rfl) (by kernel_rfl)) (OpnF.cons rfl (Opn.int (by kernel_rfl) (by kernel_rfl)) (OpnF.cons rfl (Opn.int (by kernel_rfl) (by kernel_rfl)) (OpnF.cons rfl (Opn.int (by kernel_rfl) (by kernel_rfl)) (OpnF.last rfl (Opn.int (by kernel_rfl) (by kernel_rfl))))))))
theorem opBand : Opn Try.prog k53 53 :=
  Opn.struct Try.underlying53 (by kernel_rfl) (OpnF.iso (fun x => ⟨x.1, x.2⟩) (fun _ => rfl) (OpnF.cons rfl (Opn.int (by kernel_rfl) (by kernel_rfl)) (OpnF.last rfl (Opn.int (by kernel_rfl) (by kernel_rfl)))))
theorem opTariff : Opn Try.prog k27 27 :=
  Opn.struct Try.underlying27 (by kernel_rfl) (OpnF.iso (fun x => ⟨x.1, x.2.1, x.2.2.1, x.2.2.2.1, x.2.2.2.2.1, x.2.2.2.2.2.1, x.2.2.2.2.2.2.1, x.2.2.2.2.2.2.2.1, x.2.2.2.2.2.2.2.2.1, x.2.2.2.2.2.2.2.2.2.1, x.2.2.2.2.2.2.2.2.2.2.1, x.2.2.2.2.2.2.2.2.2.2.2.1, x.2.2.2.2.2.2.2.2.2.2.2.2.1, x.2.2.2.2.2.2.2.2.2.2.2.2.2⟩) (fun _ => rfl) (OpnF.cons rfl (Opn.slice (by kernel_rfl) (by kernel_rfl) opStation) (OpnF.cons rfl (Opn.slice (by kernel_rfl) (by kernel_rfl) opSpan) (OpnF.cons rfl (Opn.slice (by kernel_rfl) (by kernel_rfl) opBand) (OpnF.cons rfl (Opn.f64 (by kernel_rfl) (by kernel_rfl)) (OpnF.cons rfl (Opn.int (by kernel_rfl) (by kernel_rfl)) (OpnF.cons rfl (Opn.int (by kernel_rfl) (by kernel_rfl)) (OpnF.cons rfl (Opn.int (by kernel_rfl) (by kernel_rfl)) (OpnF.cons rfl (Opn.int (by kernel_rfl) (by kernel_rfl)) (OpnF.cons rfl (Opn.int (by kernel_rfl) (by kernel_rfl)) (OpnF.cons rfl (Opn.int (by kernel_rfl) (by kernel_rfl)) (OpnF.cons rfl (Opn.int (by kernel_rfl) (by kernel_rfl)) (OpnF.cons rfl (Opn.int (by kernel_rfl) (by kernel_rfl)) (OpnF.cons rfl (Opn.int (by kernel_rfl) (by kernel_rfl)) (OpnF.last rfl (Opn.int (by kernel_rfl) (by kernel_rfl)))))))))))))))))
theorem opOutage : Opn Try.prog k35 35 :=
  Opn.struct Try.underlying35 (by kernel_rfl) (OpnF.iso (fun x => ⟨x.1, x.2.1, x.2.2⟩) (fun _ => rfl) (OpnF.cons rfl (Opn.int (by kernel_rfl) (by kernel_rfl)) (OpnF.cons rfl (Opn.int (by kernel_rfl) (by kernel_rfl)) (OpnF.last rfl (Opn.int (by kernel_rfl) (by kernel_rfl))))))
theorem opJourney : Opn Try.prog k31 31 :=
  Opn.struct Try.underlying31 (by kernel_rfl) (OpnF.iso (fun x => ⟨x.1, x.2.1, x.2.2.1, x.2.2.2.1, x.2.2.2.2.1, x.2.2.2.2.2⟩) (fun _ => rfl) (OpnF.cons rfl (Opn.int (by kernel_rfl) (by kernel_rfl)) (OpnF.cons rfl (Opn.int (by kernel_rfl) (by kernel_rfl)) (OpnF.cons rfl (Opn.int (by kernel_rfl) (by kernel_rfl)) (OpnF.cons rfl (Opn.int (by kernel_rfl) (by kernel_rfl)) (OpnF.cons rfl (Opn.int (by kernel_rfl) (by kernel_rfl)) (OpnF.last rfl (Opn.bool (by kernel_rfl) (by kernel_rfl)))))))))
theorem opPriced : Opn Try.prog k37 37 :=
  Opn.struct Try.underlying37 (by kernel_rfl) (OpnF.iso (fun x => ⟨x.1, x.2⟩) (fun _ => rfl) (OpnF.cons rfl (opJourney) (OpnF.last rfl (Opn.int (by kernel_rfl) (by kernel_rfl)))))
end Go.Proofs.Ytafgogllekpmiaa.PR
