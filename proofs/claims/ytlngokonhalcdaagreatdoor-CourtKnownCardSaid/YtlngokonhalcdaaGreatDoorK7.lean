/- Calls that the examples make, run. -/
import Derived.Test.YtlngokonhalcdaaGreatDoorK6
set_option linter.unusedSectionVars false
set_option linter.unusedVariables false
set_option linter.unusedSimpArgs false
set_option maxRecDepth 100000
namespace Nore
open Go Go.Ab Go.Proofs Go.Proofs.YtlngokonhalcdaaGreatDoor
theorem kn68 : Known E (60, [(.agg [(.sl [[(.str ⟨#[108, 97, 109, 112]⟩), (.int .i64 (2)), (.int .i64 (0))], [(.str ⟨#[119, 97, 116, 99, 104]⟩), (.int .i64 (3)), (.int .i64 (0))]]), (.sl [[(.int .i64 (0)), (.int .i64 (1)), (.int .i64 (100)), (.int .i64 (110))], [(.int .i64 (1)), (.int .i64 (1)), (.int .i64 (105)), (.int .i64 (120))], [(.int .i64 (0)), (.int .i64 (0)), (.int .i64 (0)), (.int .i64 (9999))], [(.int .i64 (1)), (.int .i64 (2)), (.int .i64 (125)), (.int .i64 (125))]]), (.sl [[(.int .i64 (0)), (.int .i64 (0)), (.int .i64 (112)), (.int .i64 (112))]])])], (.bool true)) := ⟨60, by kernel_rfl⟩
theorem kn69 : Known E (60, [(.agg [(.sl [[(.str ⟨#[108, 97, 109, 112]⟩), (.int .i64 (2)), (.int .i64 (0))], [(.str ⟨#[119, 97, 116, 99, 104]⟩), (.int .i64 (3)), (.int .i64 (0))]]), (.sl [[(.int .i64 (0)), (.int .i64 (1)), (.int .i64 (100)), (.int .i64 (110))], [(.int .i64 (1)), (.int .i64 (1)), (.int .i64 (105)), (.int .i64 (120))], [(.int .i64 (0)), (.int .i64 (0)), (.int .i64 (0)), (.int .i64 (9999))], [(.int .i64 (1)), (.int .i64 (2)), (.int .i64 (125)), (.int .i64 (125))]]), (.sl [[(.int .i64 (0)), (.int .i64 (1)), (.int .i64 (112)), (.int .i64 (112))]])])], (.bool true)) := ⟨60, by kernel_rfl⟩
end Nore
set_option maxRecDepth 100000
namespace Nore
open Go Go.Ab Go.Proofs Go.Proofs.YtlngokonhalcdaaGreatDoor
def kn70_tb : List (Nat × List DV × DV) := [(60, [(.agg [(.sl [[(.str ⟨#[108, 97, 109, 112]⟩), (.int .i64 (2)), (.int .i64 (0))], [(.str ⟨#[119, 97, 116, 99, 104]⟩), (.int .i64 (3)), (.int .i64 (0))]]), (.sl [[(.int .i64 (0)), (.int .i64 (1)), (.int .i64 (100)), (.int .i64 (110))], [(.int .i64 (1)), (.int .i64 (1)), (.int .i64 (105)), (.int .i64 (120))], [(.int .i64 (0)), (.int .i64 (0)), (.int .i64 (0)), (.int .i64 (9999))], [(.int .i64 (1)), (.int .i64 (2)), (.int .i64 (125)), (.int .i64 (125))]]), (.sl [[(.int .i64 (0)), (.int .i64 (0)), (.int .i64 (112)), (.int .i64 (112))]])])], (.bool true)),
  (60, [(.agg [(.sl [[(.str ⟨#[108, 97, 109, 112]⟩), (.int .i64 (2)), (.int .i64 (0))], [(.str ⟨#[119, 97, 116, 99, 104]⟩), (.int .i64 (3)), (.int .i64 (0))]]), (.sl [[(.int .i64 (0)), (.int .i64 (1)), (.int .i64 (100)), (.int .i64 (110))], [(.int .i64 (1)), (.int .i64 (1)), (.int .i64 (105)), (.int .i64 (120))], [(.int .i64 (0)), (.int .i64 (0)), (.int .i64 (0)), (.int .i64 (9999))], [(.int .i64 (1)), (.int .i64 (2)), (.int .i64 (125)), (.int .i64 (125))]]), (.sl [[(.int .i64 (0)), (.int .i64 (1)), (.int .i64 (112)), (.int .i64 (112))]])])], (.bool true))]
theorem kn70_ok : ∀ e ∈ kn70_tb, Known E e := fun e he => by
  simp only [kn70_tb, List.mem_cons, List.not_mem_nil, or_false] at he
  rcases he with rfl | rfl
  · exact kn68
  · exact kn69
theorem kn70 : Known E (61, [(.agg [(.sl [[(.str ⟨#[108, 97, 109, 112]⟩), (.int .i64 (2)), (.int .i64 (0))], [(.str ⟨#[119, 97, 116, 99, 104]⟩), (.int .i64 (3)), (.int .i64 (0))]]), (.sl [[(.int .i64 (0)), (.int .i64 (1)), (.int .i64 (100)), (.int .i64 (110))], [(.int .i64 (1)), (.int .i64 (1)), (.int .i64 (105)), (.int .i64 (120))], [(.int .i64 (0)), (.int .i64 (0)), (.int .i64 (0)), (.int .i64 (9999))], [(.int .i64 (1)), (.int .i64 (2)), (.int .i64 (125)), (.int .i64 (125))]]), (.sl [])]), (.int .i64 (0)), (.int .i64 (112))], (.sl [[(.int .i64 (0))], [(.int .i64 (1))]])) := topF_known (n := 60) kn70_ok (by kernel_rfl)
end Nore
set_option maxRecDepth 100000
namespace Nore
open Go Go.Ab Go.Proofs Go.Proofs.YtlngokonhalcdaaGreatDoor
def kn71_tb : List (Nat × List DV × DV) := [(61, [(.agg [(.sl [[(.str ⟨#[108, 97, 109, 112]⟩), (.int .i64 (2)), (.int .i64 (0))], [(.str ⟨#[119, 97, 116, 99, 104]⟩), (.int .i64 (3)), (.int .i64 (0))]]), (.sl [[(.int .i64 (0)), (.int .i64 (1)), (.int .i64 (100)), (.int .i64 (110))], [(.int .i64 (1)), (.int .i64 (1)), (.int .i64 (105)), (.int .i64 (120))], [(.int .i64 (0)), (.int .i64 (0)), (.int .i64 (0)), (.int .i64 (9999))], [(.int .i64 (1)), (.int .i64 (2)), (.int .i64 (125)), (.int .i64 (125))]]), (.sl [])]), (.int .i64 (0)), (.int .i64 (112))], (.sl [[(.int .i64 (0))], [(.int .i64 (1))]]))]
theorem kn71_ok : ∀ e ∈ kn71_tb, Known E e := fun e he => by
  simp only [kn71_tb, List.mem_cons, List.not_mem_nil, or_false] at he
  rcases he with rfl
  · exact kn70
theorem kn71 : Known E (66, [(.agg [(.sl [[(.str ⟨#[108, 97, 109, 112]⟩), (.int .i64 (2)), (.int .i64 (0))], [(.str ⟨#[119, 97, 116, 99, 104]⟩), (.int .i64 (3)), (.int .i64 (0))]]), (.sl [[(.int .i64 (0)), (.int .i64 (1)), (.int .i64 (100)), (.int .i64 (110))], [(.int .i64 (1)), (.int .i64 (1)), (.int .i64 (105)), (.int .i64 (120))], [(.int .i64 (0)), (.int .i64 (0)), (.int .i64 (0)), (.int .i64 (9999))], [(.int .i64 (1)), (.int .i64 (2)), (.int .i64 (125)), (.int .i64 (125))]]), (.sl [])]), (.agg [(.int .i64 (0)), (.int .i64 (1)), (.int .i64 (112)), (.int .i64 (112))])], (.int .i64 (1))) := topF_known (n := 60) kn71_ok (by kernel_rfl)
end Nore
set_option maxRecDepth 100000
namespace Nore
open Go Go.Ab Go.Proofs Go.Proofs.YtlngokonhalcdaaGreatDoor
theorem kn72 : Known E (60, [(.agg [(.sl [[(.str ⟨#[108, 97, 109, 112]⟩), (.int .i64 (2)), (.int .i64 (0))], [(.str ⟨#[119, 97, 116, 99, 104]⟩), (.int .i64 (3)), (.int .i64 (0))]]), (.sl [[(.int .i64 (0)), (.int .i64 (1)), (.int .i64 (100)), (.int .i64 (110))], [(.int .i64 (1)), (.int .i64 (1)), (.int .i64 (105)), (.int .i64 (120))], [(.int .i64 (0)), (.int .i64 (0)), (.int .i64 (115)), (.int .i64 (130))], [(.int .i64 (1)), (.int .i64 (2)), (.int .i64 (0)), (.int .i64 (9999))]]), (.sl [[(.int .i64 (0)), (.int .i64 (0)), (.int .i64 (112)), (.int .i64 (112))]])])], (.bool false)) := ⟨60, by kernel_rfl⟩
theorem kn73 : Known E (60, [(.agg [(.sl [[(.str ⟨#[108, 97, 109, 112]⟩), (.int .i64 (2)), (.int .i64 (0))], [(.str ⟨#[119, 97, 116, 99, 104]⟩), (.int .i64 (3)), (.int .i64 (0))]]), (.sl [[(.int .i64 (0)), (.int .i64 (1)), (.int .i64 (100)), (.int .i64 (110))], [(.int .i64 (1)), (.int .i64 (1)), (.int .i64 (105)), (.int .i64 (120))], [(.int .i64 (0)), (.int .i64 (0)), (.int .i64 (115)), (.int .i64 (130))], [(.int .i64 (1)), (.int .i64 (2)), (.int .i64 (0)), (.int .i64 (9999))]]), (.sl [[(.int .i64 (0)), (.int .i64 (1)), (.int .i64 (112)), (.int .i64 (112))]])])], (.bool true)) := ⟨60, by kernel_rfl⟩
end Nore
set_option maxRecDepth 100000
namespace Nore
open Go Go.Ab Go.Proofs Go.Proofs.YtlngokonhalcdaaGreatDoor
def kn74_tb : List (Nat × List DV × DV) := [(60, [(.agg [(.sl [[(.str ⟨#[108, 97, 109, 112]⟩), (.int .i64 (2)), (.int .i64 (0))], [(.str ⟨#[119, 97, 116, 99, 104]⟩), (.int .i64 (3)), (.int .i64 (0))]]), (.sl [[(.int .i64 (0)), (.int .i64 (1)), (.int .i64 (100)), (.int .i64 (110))], [(.int .i64 (1)), (.int .i64 (1)), (.int .i64 (105)), (.int .i64 (120))], [(.int .i64 (0)), (.int .i64 (0)), (.int .i64 (115)), (.int .i64 (130))], [(.int .i64 (1)), (.int .i64 (2)), (.int .i64 (0)), (.int .i64 (9999))]]), (.sl [[(.int .i64 (0)), (.int .i64 (0)), (.int .i64 (112)), (.int .i64 (112))]])])], (.bool false)),
  (60, [(.agg [(.sl [[(.str ⟨#[108, 97, 109, 112]⟩), (.int .i64 (2)), (.int .i64 (0))], [(.str ⟨#[119, 97, 116, 99, 104]⟩), (.int .i64 (3)), (.int .i64 (0))]]), (.sl [[(.int .i64 (0)), (.int .i64 (1)), (.int .i64 (100)), (.int .i64 (110))], [(.int .i64 (1)), (.int .i64 (1)), (.int .i64 (105)), (.int .i64 (120))], [(.int .i64 (0)), (.int .i64 (0)), (.int .i64 (115)), (.int .i64 (130))], [(.int .i64 (1)), (.int .i64 (2)), (.int .i64 (0)), (.int .i64 (9999))]]), (.sl [[(.int .i64 (0)), (.int .i64 (1)), (.int .i64 (112)), (.int .i64 (112))]])])], (.bool true))]
theorem kn74_ok : ∀ e ∈ kn74_tb, Known E e := fun e he => by
  simp only [kn74_tb, List.mem_cons, List.not_mem_nil, or_false] at he
  rcases he with rfl | rfl
  · exact kn72
  · exact kn73
theorem kn74 : Known E (61, [(.agg [(.sl [[(.str ⟨#[108, 97, 109, 112]⟩), (.int .i64 (2)), (.int .i64 (0))], [(.str ⟨#[119, 97, 116, 99, 104]⟩), (.int .i64 (3)), (.int .i64 (0))]]), (.sl [[(.int .i64 (0)), (.int .i64 (1)), (.int .i64 (100)), (.int .i64 (110))], [(.int .i64 (1)), (.int .i64 (1)), (.int .i64 (105)), (.int .i64 (120))], [(.int .i64 (0)), (.int .i64 (0)), (.int .i64 (115)), (.int .i64 (130))], [(.int .i64 (1)), (.int .i64 (2)), (.int .i64 (0)), (.int .i64 (9999))]]), (.sl [])]), (.int .i64 (0)), (.int .i64 (112))], (.sl [[(.int .i64 (1))]])) := topF_known (n := 60) kn74_ok (by kernel_rfl)
end Nore
set_option maxRecDepth 100000
namespace Nore
open Go Go.Ab Go.Proofs Go.Proofs.YtlngokonhalcdaaGreatDoor
def kn75_tb : List (Nat × List DV × DV) := [(61, [(.agg [(.sl [[(.str ⟨#[108, 97, 109, 112]⟩), (.int .i64 (2)), (.int .i64 (0))], [(.str ⟨#[119, 97, 116, 99, 104]⟩), (.int .i64 (3)), (.int .i64 (0))]]), (.sl [[(.int .i64 (0)), (.int .i64 (1)), (.int .i64 (100)), (.int .i64 (110))], [(.int .i64 (1)), (.int .i64 (1)), (.int .i64 (105)), (.int .i64 (120))], [(.int .i64 (0)), (.int .i64 (0)), (.int .i64 (115)), (.int .i64 (130))], [(.int .i64 (1)), (.int .i64 (2)), (.int .i64 (0)), (.int .i64 (9999))]]), (.sl [])]), (.int .i64 (0)), (.int .i64 (112))], (.sl [[(.int .i64 (1))]]))]
theorem kn75_ok : ∀ e ∈ kn75_tb, Known E e := fun e he => by
  simp only [kn75_tb, List.mem_cons, List.not_mem_nil, or_false] at he
  rcases he with rfl
  · exact kn74
theorem kn75 : Known E (66, [(.agg [(.sl [[(.str ⟨#[108, 97, 109, 112]⟩), (.int .i64 (2)), (.int .i64 (0))], [(.str ⟨#[119, 97, 116, 99, 104]⟩), (.int .i64 (3)), (.int .i64 (0))]]), (.sl [[(.int .i64 (0)), (.int .i64 (1)), (.int .i64 (100)), (.int .i64 (110))], [(.int .i64 (1)), (.int .i64 (1)), (.int .i64 (105)), (.int .i64 (120))], [(.int .i64 (0)), (.int .i64 (0)), (.int .i64 (115)), (.int .i64 (130))], [(.int .i64 (1)), (.int .i64 (2)), (.int .i64 (0)), (.int .i64 (9999))]]), (.sl [])]), (.agg [(.int .i64 (0)), (.int .i64 (1)), (.int .i64 (112)), (.int .i64 (112))])], (.int .i64 (2))) := topF_known (n := 60) kn75_ok (by kernel_rfl)
end Nore
set_option maxRecDepth 100000
namespace Nore
open Go Go.Ab Go.Proofs Go.Proofs.YtlngokonhalcdaaGreatDoor
def kn76_tb : List (Nat × List DV × DV) := [(65, [(.agg [(.sl [[(.str ⟨#[108, 97, 109, 112]⟩), (.int .i64 (2)), (.int .i64 (0))], [(.str ⟨#[119, 97, 116, 99, 104]⟩), (.int .i64 (3)), (.int .i64 (0))]]), (.sl [[(.int .i64 (0)), (.int .i64 (1)), (.int .i64 (100)), (.int .i64 (110))], [(.int .i64 (1)), (.int .i64 (1)), (.int .i64 (105)), (.int .i64 (120))], [(.int .i64 (0)), (.int .i64 (0)), (.int .i64 (115)), (.int .i64 (130))], [(.int .i64 (1)), (.int .i64 (2)), (.int .i64 (125)), (.int .i64 (125))]])]), (.sl []), (.agg [(.int .i64 (0)), (.int .i64 (1)), (.int .i64 (112)), (.int .i64 (112))])], (.tup [(.agg [(.sl [[(.str ⟨#[108, 97, 109, 112]⟩), (.int .i64 (2)), (.int .i64 (0))], [(.str ⟨#[119, 97, 116, 99, 104]⟩), (.int .i64 (3)), (.int .i64 (0))]]), (.sl [[(.int .i64 (0)), (.int .i64 (1)), (.int .i64 (100)), (.int .i64 (110))], [(.int .i64 (1)), (.int .i64 (1)), (.int .i64 (105)), (.int .i64 (120))], [(.int .i64 (0)), (.int .i64 (0)), (.int .i64 (115)), (.int .i64 (130))], [(.int .i64 (1)), (.int .i64 (2)), (.int .i64 (125)), (.int .i64 (125))]]), (.sl [])]), (.int .i64 (0))])),
  (66, [(.agg [(.sl [[(.str ⟨#[108, 97, 109, 112]⟩), (.int .i64 (2)), (.int .i64 (0))], [(.str ⟨#[119, 97, 116, 99, 104]⟩), (.int .i64 (3)), (.int .i64 (0))]]), (.sl [[(.int .i64 (0)), (.int .i64 (1)), (.int .i64 (100)), (.int .i64 (110))], [(.int .i64 (1)), (.int .i64 (1)), (.int .i64 (105)), (.int .i64 (120))], [(.int .i64 (0)), (.int .i64 (0)), (.int .i64 (115)), (.int .i64 (130))], [(.int .i64 (1)), (.int .i64 (2)), (.int .i64 (125)), (.int .i64 (125))]]), (.sl [])]), (.agg [(.int .i64 (0)), (.int .i64 (1)), (.int .i64 (112)), (.int .i64 (112))])], (.int .i64 (2))),
  (66, [(.agg [(.sl [[(.str ⟨#[108, 97, 109, 112]⟩), (.int .i64 (2)), (.int .i64 (0))], [(.str ⟨#[119, 97, 116, 99, 104]⟩), (.int .i64 (3)), (.int .i64 (0))]]), (.sl [[(.int .i64 (0)), (.int .i64 (1)), (.int .i64 (0)), (.int .i64 (9999))], [(.int .i64 (1)), (.int .i64 (1)), (.int .i64 (105)), (.int .i64 (120))], [(.int .i64 (0)), (.int .i64 (0)), (.int .i64 (115)), (.int .i64 (130))], [(.int .i64 (1)), (.int .i64 (2)), (.int .i64 (125)), (.int .i64 (125))]]), (.sl [])]), (.agg [(.int .i64 (0)), (.int .i64 (1)), (.int .i64 (112)), (.int .i64 (112))])], (.int .i64 (1))),
  (66, [(.agg [(.sl [[(.str ⟨#[108, 97, 109, 112]⟩), (.int .i64 (2)), (.int .i64 (0))], [(.str ⟨#[119, 97, 116, 99, 104]⟩), (.int .i64 (3)), (.int .i64 (0))]]), (.sl [[(.int .i64 (0)), (.int .i64 (1)), (.int .i64 (100)), (.int .i64 (110))], [(.int .i64 (1)), (.int .i64 (1)), (.int .i64 (0)), (.int .i64 (9999))], [(.int .i64 (0)), (.int .i64 (0)), (.int .i64 (115)), (.int .i64 (130))], [(.int .i64 (1)), (.int .i64 (2)), (.int .i64 (125)), (.int .i64 (125))]]), (.sl [])]), (.agg [(.int .i64 (0)), (.int .i64 (1)), (.int .i64 (112)), (.int .i64 (112))])], (.int .i64 (2))),
  (66, [(.agg [(.sl [[(.str ⟨#[108, 97, 109, 112]⟩), (.int .i64 (2)), (.int .i64 (0))], [(.str ⟨#[119, 97, 116, 99, 104]⟩), (.int .i64 (3)), (.int .i64 (0))]]), (.sl [[(.int .i64 (0)), (.int .i64 (1)), (.int .i64 (100)), (.int .i64 (110))], [(.int .i64 (1)), (.int .i64 (1)), (.int .i64 (105)), (.int .i64 (120))], [(.int .i64 (0)), (.int .i64 (0)), (.int .i64 (0)), (.int .i64 (9999))], [(.int .i64 (1)), (.int .i64 (2)), (.int .i64 (125)), (.int .i64 (125))]]), (.sl [])]), (.agg [(.int .i64 (0)), (.int .i64 (1)), (.int .i64 (112)), (.int .i64 (112))])], (.int .i64 (1))),
  (66, [(.agg [(.sl [[(.str ⟨#[108, 97, 109, 112]⟩), (.int .i64 (2)), (.int .i64 (0))], [(.str ⟨#[119, 97, 116, 99, 104]⟩), (.int .i64 (3)), (.int .i64 (0))]]), (.sl [[(.int .i64 (0)), (.int .i64 (1)), (.int .i64 (100)), (.int .i64 (110))], [(.int .i64 (1)), (.int .i64 (1)), (.int .i64 (105)), (.int .i64 (120))], [(.int .i64 (0)), (.int .i64 (0)), (.int .i64 (115)), (.int .i64 (130))], [(.int .i64 (1)), (.int .i64 (2)), (.int .i64 (0)), (.int .i64 (9999))]]), (.sl [])]), (.agg [(.int .i64 (0)), (.int .i64 (1)), (.int .i64 (112)), (.int .i64 (112))])], (.int .i64 (2)))]
theorem kn76_ok : ∀ e ∈ kn76_tb, Known E e := fun e he => by
  simp only [kn76_tb, List.mem_cons, List.not_mem_nil, or_false] at he
  rcases he with rfl | rfl | rfl | rfl | rfl | rfl
  · exact kn54
  · exact kn58
  · exact kn63
  · exact kn67
  · exact kn71
  · exact kn75
theorem kn76 : Known E (22, [(.agg [(.sl [[(.str ⟨#[108, 97, 109, 112]⟩), (.int .i64 (2)), (.int .i64 (0))], [(.str ⟨#[119, 97, 116, 99, 104]⟩), (.int .i64 (3)), (.int .i64 (0))]]), (.sl [[(.int .i64 (0)), (.int .i64 (1)), (.int .i64 (100)), (.int .i64 (110))], [(.int .i64 (1)), (.int .i64 (1)), (.int .i64 (105)), (.int .i64 (120))], [(.int .i64 (0)), (.int .i64 (0)), (.int .i64 (115)), (.int .i64 (130))], [(.int .i64 (1)), (.int .i64 (2)), (.int .i64 (125)), (.int .i64 (125))]])]), (.sl []), (.agg [(.int .i64 (0)), (.int .i64 (1)), (.int .i64 (112)), (.int .i64 (112))])], (.tup [(.sl [[(.int .i64 (0))], [(.int .i64 (2))]]), (.int .i64 (0))])) := topF_known (n := 60) kn76_ok (by kernel_rfl)
end Nore
set_option maxRecDepth 100000
namespace Nore
open Go Go.Ab Go.Proofs Go.Proofs.YtlngokonhalcdaaGreatDoor
def kn77_tb : List (Nat × List DV × DV) := [(46, [(.agg [(.sl [[(.str ⟨#[108, 97, 109, 112]⟩), (.int .i64 (2)), (.int .i64 (0))], [(.str ⟨#[119, 97, 116, 99, 104]⟩), (.int .i64 (3)), (.int .i64 (0))]]), (.sl [[(.int .i64 (0)), (.int .i64 (1)), (.int .i64 (100)), (.int .i64 (110))], [(.int .i64 (1)), (.int .i64 (1)), (.int .i64 (105)), (.int .i64 (120))], [(.int .i64 (0)), (.int .i64 (0)), (.int .i64 (115)), (.int .i64 (130))], [(.int .i64 (1)), (.int .i64 (2)), (.int .i64 (125)), (.int .i64 (125))]])])], (.tup [(.int .i64 (0)), (.int .i64 (0)), (.int .i64 (0))]))]
theorem kn77_ok : ∀ e ∈ kn77_tb, Known E e := fun e he => by
  simp only [kn77_tb, List.mem_cons, List.not_mem_nil, or_false] at he
  rcases he with rfl
  · exact kn0
theorem kn77 : Known E (48, [(.agg [(.sl [[(.str ⟨#[108, 97, 109, 112]⟩), (.int .i64 (2)), (.int .i64 (0))], [(.str ⟨#[119, 97, 116, 99, 104]⟩), (.int .i64 (3)), (.int .i64 (0))]]), (.sl [[(.int .i64 (0)), (.int .i64 (1)), (.int .i64 (100)), (.int .i64 (110))], [(.int .i64 (1)), (.int .i64 (1)), (.int .i64 (105)), (.int .i64 (120))], [(.int .i64 (0)), (.int .i64 (0)), (.int .i64 (115)), (.int .i64 (130))], [(.int .i64 (1)), (.int .i64 (2)), (.int .i64 (125)), (.int .i64 (125))]])]), (.sl [[(.int .i64 (0)), (.int .i64 (1)), (.int .i64 (118)), (.int .i64 (119))], [(.int .i64 (1)), (.int .i64 (2)), (.int .i64 (0)), (.int .i64 (124))]])], (.tup [(.int .i64 (0)), (.int .i64 (0))])) := topF_known (n := 60) kn77_ok (by kernel_rfl)
end Nore
