/- A row of bytes that is read, beside another row that is written. -/
import Derived.Test.YtbkncnlehlldeaaMSrt16
set_option linter.unusedVariables false
namespace Go.Proofs.Ytbkncnlehlldeaa.Srt
open Go.RowKit Go.Sort Go.Proofs.YtbkncnlehlldeaaW.PrintWords Go.Proofs.YtbkncnlehlldeaaW.PrintLast
theorem C_grown {W w1 : World} {row : Option Nat} {AD : Addr} {n : Nat} {l : List Int} (h : Kd.C (Kd.int .u8) W (some AD) n l) (hg : W.grownBy w1 row) (hne : row = some AD.block → False) : Kd.C (Kd.int .u8) w1 (some AD) n l := by
  have hr := Kd.reads_of_C (enc := Value.int .u8) (d := (0 : Int)) (h1 := fun _ => rfl) h
  refine Kd.C_of_reads (enc := Value.int .u8) (d := (0 : Int)) (h1 := fun _ => rfl) ?_
  obtain ⟨h1, h2, h3⟩ := hr
  refine ⟨h1, h2, fun hn => ?_⟩
  obtain ⟨ad, e, hc⟩ := h3 hn
  refine ⟨ad, e, fun j hj => ?_⟩
  obtain rfl := Option.some.inj e
  refine cell_grown hg (hc j hj) (fun e => hne ?_)
  rw [add_block] at e
  exact e.symm
end Go.Proofs.Ytbkncnlehlldeaa.Srt
