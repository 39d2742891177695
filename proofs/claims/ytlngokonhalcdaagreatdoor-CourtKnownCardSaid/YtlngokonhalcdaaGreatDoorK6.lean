/- Calls that the examples make, run. -/
import Derived.Test.YtlngokonhalcdaaGreatDoorK5
set_option linter.unusedSectionVars false
set_option linter.unusedVariables false
set_option linter.unusedSimpArgs false
set_option maxRecDepth 100000
namespace Nore
open Go Go.Ab Go.Proofs Go.Proofs.YtlngokonhalcdaaGreatDoor
theorem kn55 : Known E (60, [(.agg [(.sl [[(.str ⟨#[108, 97, 109, 112]⟩), (.int .i64 (2)), (.int .i64 (0))], [(.str ⟨#[119, 97, 116, 99, 104]⟩), (.int .i64 (3)), (.int .i64 (0))]]), (.sl [[(.int .i64 (0)), (.int .i64 (1)), (.int .i64 (100)), (.int .i64 (110))], [(.int .i64 (1)), (.int .i64 (1)), (.int .i64 (105)), (.int .i64 (120))], [(.int .i64 (0)), (.int .i64 (0)), (.int .i64 (115)), (.int .i64 (130))], [(.int .i64 (1)), (.int .i64 (2)), (.int .i64 (125)), (.int .i64 (125))]]), (.sl [[(.int .i64 (0)), (.int .i64 (0)), (.int .i64 (112)), (.int .i64 (112))]])])], (.bool false)) := ⟨60, by kernel_rfl⟩
theorem kn56 : Known E (60, [(.agg [(.sl [[(.str ⟨#[108, 97, 109, 112]⟩), (.int .i64 (2)), (.int .i64 (0))], [(.str ⟨#[119, 97, 116, 99, 104]⟩), (.int .i64 (3)), (.int .i64 (0))]]), (.sl [[(.int .i64 (0)), (.int .i64 (1)), (.int .i64 (100)), (.int .i64 (110))], [(.int .i64 (1)), (.int .i64 (1)), (.int .i64 (105)), (.int .i64 (120))], [(.int .i64 (0)), (.int .i64 (0)), (.int .i64 (115)), (.int .i64 (130))], [(.int .i64 (1)), (.int .i64 (2)), (.int .i64 (125)), (.int .i64 (125))]]), (.sl [[(.int .i64 (0)), (.int .i64 (1)), (.int .i64 (112)), (.int .i64 (112))]])])], (.bool true)) := ⟨60, by kernel_rfl⟩
end Nore
set_option maxRecDepth 100000
namespace Nore
open Go Go.Ab Go.Proofs Go.Proofs.YtlngokonhalcdaaGreatDoor
def kn57_tb : List (Nat × List DV × DV) := [(60, [(.agg [(.sl [[(.str ⟨#[108, 97, 109, 112]⟩), (.int .i64 (2)), (.int .i64 (0))], [(.str ⟨#[119, 97, 116, 99, 104]⟩), (.int .i64 (3)), (.int .i64 (0))]]), (.sl [[(.int .i64 (0)), (.int .i64 (1)), (.int .i64 (100)), (.int .i64 (110))], [(.int .i64 (1)), (.int .i64 (1)), (.int .i64 (105)), (.int .i64 (120))], [(.int .i64 (0)), (.int .i64 (0)), (.int .i64 (115)), (.int .i64 (130))], [(.int .i64 (1)), (.int .i64 (2)), (.int .i64 (125)), (.int .i64 (125))]]), (.sl [[(.int .i64 (0)), (.int .i64 (0)), (.int .i64 (112)), (.int .i64 (112))]])])], (.bool false)),
  (60, [(.agg [(.sl [[(.str ⟨#[108, 97, 109, 112]⟩), (.int .i64 (2)), (.int .i64 (0))], [(.str ⟨#[119, 97, 116, 99, 104]⟩), (.int .i64 (3)), (.int .i64 (0))]]), (.sl [[(.int .i64 (0)), (.int .i64 (1)), (.int .i64 (100)), (.int .i64 (110))], [(.int .i64 (1)), (.int .i64 (1)), (.int .i64 (105)), (.int .i64 (120))], [(.int .i64 (0)), (.int .i64 (0)), (.int .i64 (115)), (.int .i64 (130))], [(.int .i64 (1)), (.int .i64 (2)), (.int .i64 (125)), (.int .i64 (125))]]), (.sl [[(.int .i64 (0)), (.int .i64 (1)), (.int .i64 (112)), (.int .i64 (112))]])])], (.bool true))]
theorem kn57_ok : ∀ e ∈ kn57_tb, Known E e := fun e he => by
  simp only [kn57_tb, List.mem_cons, List.not_mem_nil, or_false] at he
  rcases he with rfl | rfl
  · exact kn55
  · exact kn56
theorem kn57 : Known E (61, [(.agg [(.sl [[(.str ⟨#[108, 97, 109, 112]⟩), (.int .i64 (2)), (.int .i64 (0))], [(.str ⟨#[119, 97, 116, 99, 104]⟩), (.int .i64 (3)), (.int .i64 (0))]]), (.sl [[(.int .i64 (0)), (.int .i64 (1)), (.int .i64 (100)), (.int .i64 (110))], [(.int .i64 (1)), (.int .i64 (1)), (.int .i64 (105)), (.int .i64 (120))], [(.int .i64 (0)), (.int .i64 (0)), (.int .i64 (115)), (.int .i64 (130))], [(.int .i64 (1)), (.int .i64 (2)), (.int .i64 (125)), (.int .i64 (125))]]), (.sl [])]), (.int .i64 (0)), (.int .i64 (112))], (.sl [[(.int .i64 (1))]])) := topF_known (n := 60) kn57_ok (by kernel_rfl)
end Nore
set_option maxRecDepth 100000
namespace Nore
open Go Go.Ab Go.Proofs Go.Proofs.YtlngokonhalcdaaGreatDoor
def kn58_tb : List (Nat × List DV × DV) := [(61, [(.agg [(.sl [[(.str ⟨#[108, 97, 109, 112]⟩), (.int .i64 (2)), (.int .i64 (0))], [(.str ⟨#[119, 97, 116, 99, 104]⟩), (.int .i64 (3)), (.int .i64 (0))]]), (.sl [[(.int .i64 (0)), (.int .i64 (1)), (.int .i64 (100)), (.int .i64 (110))], [(.int .i64 (1)), (.int .i64 (1)), (.int .i64 (105)), (.int .i64 (120))], [(.int .i64 (0)), (.int .i64 (0)), (.int .i64 (115)), (.int .i64 (130))], [(.int .i64 (1)), (.int .i64 (2)), (.int .i64 (125)), (.int .i64 (125))]]), (.sl [])]), (.int .i64 (0)), (.int .i64 (112))], (.sl [[(.int .i64 (1))]]))]
theorem kn58_ok : ∀ e ∈ kn58_tb, Known E e := fun e he => by
  simp only [kn58_tb, List.mem_cons, List.not_mem_nil, or_false] at he
  rcases he with rfl
  · exact kn57
theorem kn58 : Known E (66, [(.agg [(.sl [[(.str ⟨#[108, 97, 109, 112]⟩), (.int .i64 (2)), (.int .i64 (0))], [(.str ⟨#[119, 97, 116, 99, 104]⟩), (.int .i64 (3)), (.int .i64 (0))]]), (.sl [[(.int .i64 (0)), (.int .i64 (1)), (.int .i64 (100)), (.int .i64 (110))], [(.int .i64 (1)), (.int .i64 (1)), (.int .i64 (105)), (.int .i64 (120))], [(.int .i64 (0)), (.int .i64 (0)), (.int .i64 (115)), (.int .i64 (130))], [(.int .i64 (1)), (.int .i64 (2)), (.int .i64 (125)), (.int .i64 (125))]]), (.sl [])]), (.agg [(.int .i64 (0)), (.int .i64 (1)), (.int .i64 (112)), (.int .i64 (112))])], (.int .i64 (2))) := topF_known (n := 60) kn58_ok (by kernel_rfl)
end Nore
set_option maxRecDepth 100000
namespace Nore
open Go Go.Ab Go.Proofs Go.Proofs.YtlngokonhalcdaaGreatDoor
def kn59_tb : List (Nat × List DV × DV) := [(65, [(.agg [(.sl [[(.str ⟨#[108, 97, 109, 112]⟩), (.int .i64 (2)), (.int .i64 (0))], [(.str ⟨#[119, 97, 116, 99, 104]⟩), (.int .i64 (3)), (.int .i64 (0))]]), (.sl [[(.int .i64 (0)), (.int .i64 (1)), (.int .i64 (100)), (.int .i64 (110))], [(.int .i64 (1)), (.int .i64 (1)), (.int .i64 (105)), (.int .i64 (120))], [(.int .i64 (0)), (.int .i64 (0)), (.int .i64 (115)), (.int .i64 (130))], [(.int .i64 (1)), (.int .i64 (2)), (.int .i64 (125)), (.int .i64 (125))]])]), (.sl []), (.agg [(.int .i64 (0)), (.int .i64 (1)), (.int .i64 (112)), (.int .i64 (112))])], (.tup [(.agg [(.sl [[(.str ⟨#[108, 97, 109, 112]⟩), (.int .i64 (2)), (.int .i64 (0))], [(.str ⟨#[119, 97, 116, 99, 104]⟩), (.int .i64 (3)), (.int .i64 (0))]]), (.sl [[(.int .i64 (0)), (.int .i64 (1)), (.int .i64 (100)), (.int .i64 (110))], [(.int .i64 (1)), (.int .i64 (1)), (.int .i64 (105)), (.int .i64 (120))], [(.int .i64 (0)), (.int .i64 (0)), (.int .i64 (115)), (.int .i64 (130))], [(.int .i64 (1)), (.int .i64 (2)), (.int .i64 (125)), (.int .i64 (125))]]), (.sl [])]), (.int .i64 (0))])),
  (66, [(.agg [(.sl [[(.str ⟨#[108, 97, 109, 112]⟩), (.int .i64 (2)), (.int .i64 (0))], [(.str ⟨#[119, 97, 116, 99, 104]⟩), (.int .i64 (3)), (.int .i64 (0))]]), (.sl [[(.int .i64 (0)), (.int .i64 (1)), (.int .i64 (100)), (.int .i64 (110))], [(.int .i64 (1)), (.int .i64 (1)), (.int .i64 (105)), (.int .i64 (120))], [(.int .i64 (0)), (.int .i64 (0)), (.int .i64 (115)), (.int .i64 (130))], [(.int .i64 (1)), (.int .i64 (2)), (.int .i64 (125)), (.int .i64 (125))]]), (.sl [])]), (.agg [(.int .i64 (0)), (.int .i64 (1)), (.int .i64 (112)), (.int .i64 (112))])], (.int .i64 (2)))]
theorem kn59_ok : ∀ e ∈ kn59_tb, Known E e := fun e he => by
  simp only [kn59_tb, List.mem_cons, List.not_mem_nil, or_false] at he
  rcases he with rfl | rfl
  · exact kn54
  · exact kn58
theorem kn59 : Known E (20, [(.agg [(.sl [[(.str ⟨#[108, 97, 109, 112]⟩), (.int .i64 (2)), (.int .i64 (0))], [(.str ⟨#[119, 97, 116, 99, 104]⟩), (.int .i64 (3)), (.int .i64 (0))]]), (.sl [[(.int .i64 (0)), (.int .i64 (1)), (.int .i64 (100)), (.int .i64 (110))], [(.int .i64 (1)), (.int .i64 (1)), (.int .i64 (105)), (.int .i64 (120))], [(.int .i64 (0)), (.int .i64 (0)), (.int .i64 (115)), (.int .i64 (130))], [(.int .i64 (1)), (.int .i64 (2)), (.int .i64 (125)), (.int .i64 (125))]])]), (.sl []), (.agg [(.int .i64 (0)), (.int .i64 (1)), (.int .i64 (112)), (.int .i64 (112))])], (.tup [(.int .i64 (2)), (.int .i64 (0))])) := topF_known (n := 60) kn59_ok (by kernel_rfl)
end Nore
set_option maxRecDepth 100000
namespace Nore
open Go Go.Ab Go.Proofs Go.Proofs.YtlngokonhalcdaaGreatDoor
theorem kn60 : Known E (60, [(.agg [(.sl [[(.str ⟨#[108, 97, 109, 112]⟩), (.int .i64 (2)), (.int .i64 (0))], [(.str ⟨#[119, 97, 116, 99, 104]⟩), (.int .i64 (3)), (.int .i64 (0))]]), (.sl [[(.int .i64 (0)), (.int .i64 (1)), (.int .i64 (0)), (.int .i64 (9999))], [(.int .i64 (1)), (.int .i64 (1)), (.int .i64 (105)), (.int .i64 (120))], [(.int .i64 (0)), (.int .i64 (0)), (.int .i64 (115)), (.int .i64 (130))], [(.int .i64 (1)), (.int .i64 (2)), (.int .i64 (125)), (.int .i64 (125))]]), (.sl [[(.int .i64 (0)), (.int .i64 (0)), (.int .i64 (112)), (.int .i64 (112))]])])], (.bool true)) := ⟨60, by kernel_rfl⟩
theorem kn61 : Known E (60, [(.agg [(.sl [[(.str ⟨#[108, 97, 109, 112]⟩), (.int .i64 (2)), (.int .i64 (0))], [(.str ⟨#[119, 97, 116, 99, 104]⟩), (.int .i64 (3)), (.int .i64 (0))]]), (.sl [[(.int .i64 (0)), (.int .i64 (1)), (.int .i64 (0)), (.int .i64 (9999))], [(.int .i64 (1)), (.int .i64 (1)), (.int .i64 (105)), (.int .i64 (120))], [(.int .i64 (0)), (.int .i64 (0)), (.int .i64 (115)), (.int .i64 (130))], [(.int .i64 (1)), (.int .i64 (2)), (.int .i64 (125)), (.int .i64 (125))]]), (.sl [[(.int .i64 (0)), (.int .i64 (1)), (.int .i64 (112)), (.int .i64 (112))]])])], (.bool true)) := ⟨60, by kernel_rfl⟩
end Nore
set_option maxRecDepth 100000
namespace Nore
open Go Go.Ab Go.Proofs Go.Proofs.YtlngokonhalcdaaGreatDoor
def kn62_tb : List (Nat × List DV × DV) := [(60, [(.agg [(.sl [[(.str ⟨#[108, 97, 109, 112]⟩), (.int .i64 (2)), (.int .i64 (0))], [(.str ⟨#[119, 97, 116, 99, 104]⟩), (.int .i64 (3)), (.int .i64 (0))]]), (.sl [[(.int .i64 (0)), (.int .i64 (1)), (.int .i64 (0)), (.int .i64 (9999))], [(.int .i64 (1)), (.int .i64 (1)), (.int .i64 (105)), (.int .i64 (120))], [(.int .i64 (0)), (.int .i64 (0)), (.int .i64 (115)), (.int .i64 (130))], [(.int .i64 (1)), (.int .i64 (2)), (.int .i64 (125)), (.int .i64 (125))]]), (.sl [[(.int .i64 (0)), (.int .i64 (0)), (.int .i64 (112)), (.int .i64 (112))]])])], (.bool true)),
  (60, [(.agg [(.sl [[(.str ⟨#[108, 97, 109, 112]⟩), (.int .i64 (2)), (.int .i64 (0))], [(.str ⟨#[119, 97, 116, 99, 104]⟩), (.int .i64 (3)), (.int .i64 (0))]]), (.sl [[(.int .i64 (0)), (.int .i64 (1)), (.int .i64 (0)), (.int .i64 (9999))], [(.int .i64 (1)), (.int .i64 (1)), (.int .i64 (105)), (.int .i64 (120))], [(.int .i64 (0)), (.int .i64 (0)), (.int .i64 (115)), (.int .i64 (130))], [(.int .i64 (1)), (.int .i64 (2)), (.int .i64 (125)), (.int .i64 (125))]]), (.sl [[(.int .i64 (0)), (.int .i64 (1)), (.int .i64 (112)), (.int .i64 (112))]])])], (.bool true))]
theorem kn62_ok : ∀ e ∈ kn62_tb, Known E e := fun e he => by
  simp only [kn62_tb, List.mem_cons, List.not_mem_nil, or_false] at he
  rcases he with rfl | rfl
  · exact kn60
  · exact kn61
theorem kn62 : Known E (61, [(.agg [(.sl [[(.str ⟨#[108, 97, 109, 112]⟩), (.int .i64 (2)), (.int .i64 (0))], [(.str ⟨#[119, 97, 116, 99, 104]⟩), (.int .i64 (3)), (.int .i64 (0))]]), (.sl [[(.int .i64 (0)), (.int .i64 (1)), (.int .i64 (0)), (.int .i64 (9999))], [(.int .i64 (1)), (.int .i64 (1)), (.int .i64 (105)), (.int .i64 (120))], [(.int .i64 (0)), (.int .i64 (0)), (.int .i64 (115)), (.int .i64 (130))], [(.int .i64 (1)), (.int .i64 (2)), (.int .i64 (125)), (.int .i64 (125))]]), (.sl [])]), (.int .i64 (0)), (.int .i64 (112))], (.sl [[(.int .i64 (0))], [(.int .i64 (1))]])) := topF_known (n := 60) kn62_ok (by kernel_rfl)
end Nore
set_option maxRecDepth 100000
namespace Nore
open Go Go.Ab Go.Proofs Go.Proofs.YtlngokonhalcdaaGreatDoor
def kn63_tb : List (Nat × List DV × DV) := [(61, [(.agg [(.sl [[(.str ⟨#[108, 97, 109, 112]⟩), (.int .i64 (2)), (.int .i64 (0))], [(.str ⟨#[119, 97, 116, 99, 104]⟩), (.int .i64 (3)), (.int .i64 (0))]]), (.sl [[(.int .i64 (0)), (.int .i64 (1)), (.int .i64 (0)), (.int .i64 (9999))], [(.int .i64 (1)), (.int .i64 (1)), (.int .i64 (105)), (.int .i64 (120))], [(.int .i64 (0)), (.int .i64 (0)), (.int .i64 (115)), (.int .i64 (130))], [(.int .i64 (1)), (.int .i64 (2)), (.int .i64 (125)), (.int .i64 (125))]]), (.sl [])]), (.int .i64 (0)), (.int .i64 (112))], (.sl [[(.int .i64 (0))], [(.int .i64 (1))]]))]
theorem kn63_ok : ∀ e ∈ kn63_tb, Known E e := fun e he => by
  simp only [kn63_tb, List.mem_cons, List.not_mem_nil, or_false] at he
  rcases he with rfl
  · exact kn62
theorem kn63 : Known E (66, [(.agg [(.sl [[(.str ⟨#[108, 97, 109, 112]⟩), (.int .i64 (2)), (.int .i64 (0))], [(.str ⟨#[119, 97, 116, 99, 104]⟩), (.int .i64 (3)), (.int .i64 (0))]]), (.sl [[(.int .i64 (0)), (.int .i64 (1)), (.int .i64 (0)), (.int .i64 (9999))], [(.int .i64 (1)), (.int .i64 (1)), (.int .i64 (105)), (.int .i64 (120))], [(.int .i64 (0)), (.int .i64 (0)), (.int .i64 (115)), (.int .i64 (130))], [(.int .i64 (1)), (.int .i64 (2)), (.int .i64 (125)), (.int .i64 (125))]]), (.sl [])]), (.agg [(.int .i64 (0)), (.int .i64 (1)), (.int .i64 (112)), (.int .i64 (112))])], (.int .i64 (1))) := topF_known (n := 60) kn63_ok (by kernel_rfl)
end Nore
set_option maxRecDepth 100000
namespace Nore
open Go Go.Ab Go.Proofs Go.Proofs.YtlngokonhalcdaaGreatDoor
theorem kn64 : Known E (60, [(.agg [(.sl [[(.str ⟨#[108, 97, 109, 112]⟩), (.int .i64 (2)), (.int .i64 (0))], [(.str ⟨#[119, 97, 116, 99, 104]⟩), (.int .i64 (3)), (.int .i64 (0))]]), (.sl [[(.int .i64 (0)), (.int .i64 (1)), (.int .i64 (100)), (.int .i64 (110))], [(.int .i64 (1)), (.int .i64 (1)), (.int .i64 (0)), (.int .i64 (9999))], [(.int .i64 (0)), (.int .i64 (0)), (.int .i64 (115)), (.int .i64 (130))], [(.int .i64 (1)), (.int .i64 (2)), (.int .i64 (125)), (.int .i64 (125))]]), (.sl [[(.int .i64 (0)), (.int .i64 (0)), (.int .i64 (112)), (.int .i64 (112))]])])], (.bool false)) := ⟨60, by kernel_rfl⟩
theorem kn65 : Known E (60, [(.agg [(.sl [[(.str ⟨#[108, 97, 109, 112]⟩), (.int .i64 (2)), (.int .i64 (0))], [(.str ⟨#[119, 97, 116, 99, 104]⟩), (.int .i64 (3)), (.int .i64 (0))]]), (.sl [[(.int .i64 (0)), (.int .i64 (1)), (.int .i64 (100)), (.int .i64 (110))], [(.int .i64 (1)), (.int .i64 (1)), (.int .i64 (0)), (.int .i64 (9999))], [(.int .i64 (0)), (.int .i64 (0)), (.int .i64 (115)), (.int .i64 (130))], [(.int .i64 (1)), (.int .i64 (2)), (.int .i64 (125)), (.int .i64 (125))]]), (.sl [[(.int .i64 (0)), (.int .i64 (1)), (.int .i64 (112)), (.int .i64 (112))]])])], (.bool true)) := ⟨60, by kernel_rfl⟩
end Nore
set_option maxRecDepth 100000
namespace Nore
open Go Go.Ab Go.Proofs Go.Proofs.YtlngokonhalcdaaGreatDoor
def kn66_tb : List (Nat × List DV × DV) := [(60, [(.agg [(.sl [[(.str ⟨#[108, 97, 109, 112]⟩), (.int .i64 (2)), (.int .i64 (0))], [(.str ⟨#[119, 97, 116, 99, 104]⟩), (.int .i64 (3)), (.int .i64 (0))]]), (.sl [[(.int .i64 (0)), (.int .i64 (1)), (.int .i64 (100)), (.int .i64 (110))], [(.int .i64 (1)), (.int .i64 (1)), (.int .i64 (0)), (.int .i64 (9999))], [(.int .i64 (0)), (.int .i64 (0)), (.int .i64 (115)), (.int .i64 (130))], [(.int .i64 (1)), (.int .i64 (2)), (.int .i64 (125)), (.int .i64 (125))]]), (.sl [[(.int .i64 (0)), (.int .i64 (0)), (.int .i64 (112)), (.int .i64 (112))]])])], (.bool false)),
  (60, [(.agg [(.sl [[(.str ⟨#[108, 97, 109, 112]⟩), (.int .i64 (2)), (.int .i64 (0))], [(.str ⟨#[119, 97, 116, 99, 104]⟩), (.int .i64 (3)), (.int .i64 (0))]]), (.sl [[(.int .i64 (0)), (.int .i64 (1)), (.int .i64 (100)), (.int .i64 (110))], [(.int .i64 (1)), (.int .i64 (1)), (.int .i64 (0)), (.int .i64 (9999))], [(.int .i64 (0)), (.int .i64 (0)), (.int .i64 (115)), (.int .i64 (130))], [(.int .i64 (1)), (.int .i64 (2)), (.int .i64 (125)), (.int .i64 (125))]]), (.sl [[(.int .i64 (0)), (.int .i64 (1)), (.int .i64 (112)), (.int .i64 (112))]])])], (.bool true))]
theorem kn66_ok : ∀ e ∈ kn66_tb, Known E e := fun e he => by
  simp only [kn66_tb, List.mem_cons, List.not_mem_nil, or_false] at he
  rcases he with rfl | rfl
  · exact kn64
  · exact kn65
theorem kn66 : Known E (61, [(.agg [(.sl [[(.str ⟨#[108, 97, 109, 112]⟩), (.int .i64 (2)), (.int .i64 (0))], [(.str ⟨#[119, 97, 116, 99, 104]⟩), (.int .i64 (3)), (.int .i64 (0))]]), (.sl [[(.int .i64 (0)), (.int .i64 (1)), (.int .i64 (100)), (.int .i64 (110))], [(.int .i64 (1)), (.int .i64 (1)), (.int .i64 (0)), (.int .i64 (9999))], [(.int .i64 (0)), (.int .i64 (0)), (.int .i64 (115)), (.int .i64 (130))], [(.int .i64 (1)), (.int .i64 (2)), (.int .i64 (125)), (.int .i64 (125))]]), (.sl [])]), (.int .i64 (0)), (.int .i64 (112))], (.sl [[(.int .i64 (1))]])) := topF_known (n := 60) kn66_ok (by kernel_rfl)
end Nore
set_option maxRecDepth 100000
namespace Nore
open Go Go.Ab Go.Proofs Go.Proofs.YtlngokonhalcdaaGreatDoor
def kn67_tb : List (Nat × List DV × DV) := [(61, [(.agg [(.sl [[(.str ⟨#[108, 97, 109, 112]⟩), (.int .i64 (2)), (.int .i64 (0))], [(.str ⟨#[119, 97, 116, 99, 104]⟩), (.int .i64 (3)), (.int .i64 (0))]]), (.sl [[(.int .i64 (0)), (.int .i64 (1)), (.int .i64 (100)), (.int .i64 (110))], [(.int .i64 (1)), (.int .i64 (1)), (.int .i64 (0)), (.int .i64 (9999))], [(.int .i64 (0)), (.int .i64 (0)), (.int .i64 (115)), (.int .i64 (130))], [(.int .i64 (1)), (.int .i64 (2)), (.int .i64 (125)), (.int .i64 (125))]]), (.sl [])]), (.int .i64 (0)), (.int .i64 (112))], (.sl [[(.int .i64 (1))]]))]
theorem kn67_ok : ∀ e ∈ kn67_tb, Known E e := fun e he => by
  simp only [kn67_tb, List.mem_cons, List.not_mem_nil, or_false] at he
  rcases he with rfl
  · exact kn66
theorem kn67 : Known E (66, [(.agg [(.sl [[(.str ⟨#[108, 97, 109, 112]⟩), (.int .i64 (2)), (.int .i64 (0))], [(.str ⟨#[119, 97, 116, 99, 104]⟩), (.int .i64 (3)), (.int .i64 (0))]]), (.sl [[(.int .i64 (0)), (.int .i64 (1)), (.int .i64 (100)), (.int .i64 (110))], [(.int .i64 (1)), (.int .i64 (1)), (.int .i64 (0)), (.int .i64 (9999))], [(.int .i64 (0)), (.int .i64 (0)), (.int .i64 (115)), (.int .i64 (130))], [(.int .i64 (1)), (.int .i64 (2)), (.int .i64 (125)), (.int .i64 (125))]]), (.sl [])]), (.agg [(.int .i64 (0)), (.int .i64 (1)), (.int .i64 (112)), (.int .i64 (112))])], (.int .i64 (2))) := topF_known (n := 60) kn67_ok (by kernel_rfl)
end Nore
