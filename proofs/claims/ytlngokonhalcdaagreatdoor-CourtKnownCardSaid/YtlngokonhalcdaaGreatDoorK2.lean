/- Calls that the examples make, run. -/
import Derived.Test.YtlngokonhalcdaaGreatDoorK1
set_option linter.unusedSectionVars false
set_option linter.unusedVariables false
set_option linter.unusedSimpArgs false
set_option maxRecDepth 100000
namespace Nore
open Go Go.Ab Go.Proofs Go.Proofs.YtlngokonhalcdaaGreatDoor
theorem kn11 : Known E (60, [(.agg [(.sl [[(.str ⟨#[108, 97, 109, 112]⟩), (.int .i64 (2)), (.int .i64 (0))], [(.str ⟨#[119, 97, 116, 99, 104]⟩), (.int .i64 (3)), (.int .i64 (0))]]), (.sl [[(.int .i64 (0)), (.int .i64 (1)), (.int .i64 (100)), (.int .i64 (110))], [(.int .i64 (1)), (.int .i64 (1)), (.int .i64 (105)), (.int .i64 (120))], [(.int .i64 (0)), (.int .i64 (0)), (.int .i64 (115)), (.int .i64 (130))], [(.int .i64 (1)), (.int .i64 (2)), (.int .i64 (125)), (.int .i64 (125))]]), (.sl [])])], (.bool true)) := ⟨60, by kernel_rfl⟩
theorem kn12 : Known E (60, [(.agg [(.sl [[(.str ⟨#[108, 97, 109, 112]⟩), (.int .i64 (2)), (.int .i64 (0))], [(.str ⟨#[119, 97, 116, 99, 104]⟩), (.int .i64 (3)), (.int .i64 (0))]]), (.sl [[(.int .i64 (0)), (.int .i64 (1)), (.int .i64 (100)), (.int .i64 (110))], [(.int .i64 (1)), (.int .i64 (1)), (.int .i64 (105)), (.int .i64 (120))], [(.int .i64 (0)), (.int .i64 (0)), (.int .i64 (115)), (.int .i64 (130))], [(.int .i64 (1)), (.int .i64 (2)), (.int .i64 (125)), (.int .i64 (125))]]), (.sl [[(.int .i64 (0)), (.int .i64 (0)), (.int .i64 (126)), (.int .i64 (126))]])])], (.bool true)) := ⟨60, by kernel_rfl⟩
theorem kn13 : Known E (60, [(.agg [(.sl [[(.str ⟨#[108, 97, 109, 112]⟩), (.int .i64 (2)), (.int .i64 (0))], [(.str ⟨#[119, 97, 116, 99, 104]⟩), (.int .i64 (3)), (.int .i64 (0))]]), (.sl [[(.int .i64 (0)), (.int .i64 (1)), (.int .i64 (100)), (.int .i64 (110))], [(.int .i64 (1)), (.int .i64 (1)), (.int .i64 (105)), (.int .i64 (120))], [(.int .i64 (0)), (.int .i64 (0)), (.int .i64 (115)), (.int .i64 (130))], [(.int .i64 (1)), (.int .i64 (2)), (.int .i64 (125)), (.int .i64 (125))]]), (.sl [[(.int .i64 (0)), (.int .i64 (1)), (.int .i64 (126)), (.int .i64 (126))]])])], (.bool false)) := ⟨60, by kernel_rfl⟩
end Nore
set_option maxRecDepth 100000
namespace Nore
open Go Go.Ab Go.Proofs Go.Proofs.YtlngokonhalcdaaGreatDoor
def kn14_tb : List (Nat × List DV × DV) := [(60, [(.agg [(.sl [[(.str ⟨#[108, 97, 109, 112]⟩), (.int .i64 (2)), (.int .i64 (0))], [(.str ⟨#[119, 97, 116, 99, 104]⟩), (.int .i64 (3)), (.int .i64 (0))]]), (.sl [[(.int .i64 (0)), (.int .i64 (1)), (.int .i64 (100)), (.int .i64 (110))], [(.int .i64 (1)), (.int .i64 (1)), (.int .i64 (105)), (.int .i64 (120))], [(.int .i64 (0)), (.int .i64 (0)), (.int .i64 (115)), (.int .i64 (130))], [(.int .i64 (1)), (.int .i64 (2)), (.int .i64 (125)), (.int .i64 (125))]]), (.sl [[(.int .i64 (0)), (.int .i64 (0)), (.int .i64 (126)), (.int .i64 (126))]])])], (.bool true)),
  (60, [(.agg [(.sl [[(.str ⟨#[108, 97, 109, 112]⟩), (.int .i64 (2)), (.int .i64 (0))], [(.str ⟨#[119, 97, 116, 99, 104]⟩), (.int .i64 (3)), (.int .i64 (0))]]), (.sl [[(.int .i64 (0)), (.int .i64 (1)), (.int .i64 (100)), (.int .i64 (110))], [(.int .i64 (1)), (.int .i64 (1)), (.int .i64 (105)), (.int .i64 (120))], [(.int .i64 (0)), (.int .i64 (0)), (.int .i64 (115)), (.int .i64 (130))], [(.int .i64 (1)), (.int .i64 (2)), (.int .i64 (125)), (.int .i64 (125))]]), (.sl [[(.int .i64 (0)), (.int .i64 (1)), (.int .i64 (126)), (.int .i64 (126))]])])], (.bool false))]
theorem kn14_ok : ∀ e ∈ kn14_tb, Known E e := fun e he => by
  simp only [kn14_tb, List.mem_cons, List.not_mem_nil, or_false] at he
  rcases he with rfl | rfl
  · exact kn12
  · exact kn13
theorem kn14 : Known E (61, [(.agg [(.sl [[(.str ⟨#[108, 97, 109, 112]⟩), (.int .i64 (2)), (.int .i64 (0))], [(.str ⟨#[119, 97, 116, 99, 104]⟩), (.int .i64 (3)), (.int .i64 (0))]]), (.sl [[(.int .i64 (0)), (.int .i64 (1)), (.int .i64 (100)), (.int .i64 (110))], [(.int .i64 (1)), (.int .i64 (1)), (.int .i64 (105)), (.int .i64 (120))], [(.int .i64 (0)), (.int .i64 (0)), (.int .i64 (115)), (.int .i64 (130))], [(.int .i64 (1)), (.int .i64 (2)), (.int .i64 (125)), (.int .i64 (125))]]), (.sl [])]), (.int .i64 (0)), (.int .i64 (126))], (.sl [[(.int .i64 (0))]])) := topF_known (n := 60) kn14_ok (by kernel_rfl)
end Nore
set_option maxRecDepth 100000
namespace Nore
open Go Go.Ab Go.Proofs Go.Proofs.YtlngokonhalcdaaGreatDoor
def kn15_tb : List (Nat × List DV × DV) := [(58, [(.agg [(.sl [[(.str ⟨#[108, 97, 109, 112]⟩), (.int .i64 (2)), (.int .i64 (0))], [(.str ⟨#[119, 97, 116, 99, 104]⟩), (.int .i64 (3)), (.int .i64 (0))]]), (.sl [[(.int .i64 (0)), (.int .i64 (1)), (.int .i64 (100)), (.int .i64 (110))], [(.int .i64 (1)), (.int .i64 (1)), (.int .i64 (105)), (.int .i64 (120))], [(.int .i64 (0)), (.int .i64 (0)), (.int .i64 (115)), (.int .i64 (130))], [(.int .i64 (1)), (.int .i64 (2)), (.int .i64 (125)), (.int .i64 (125))]])]), (.sl [])], (.tup [(.agg [(.sl [[(.str ⟨#[108, 97, 109, 112]⟩), (.int .i64 (2)), (.int .i64 (0))], [(.str ⟨#[119, 97, 116, 99, 104]⟩), (.int .i64 (3)), (.int .i64 (0))]]), (.sl [[(.int .i64 (0)), (.int .i64 (1)), (.int .i64 (100)), (.int .i64 (110))], [(.int .i64 (1)), (.int .i64 (1)), (.int .i64 (105)), (.int .i64 (120))], [(.int .i64 (0)), (.int .i64 (0)), (.int .i64 (115)), (.int .i64 (130))], [(.int .i64 (1)), (.int .i64 (2)), (.int .i64 (125)), (.int .i64 (125))]]), (.sl [])]), (.int .i64 (0))])),
  (60, [(.agg [(.sl [[(.str ⟨#[108, 97, 109, 112]⟩), (.int .i64 (2)), (.int .i64 (0))], [(.str ⟨#[119, 97, 116, 99, 104]⟩), (.int .i64 (3)), (.int .i64 (0))]]), (.sl [[(.int .i64 (0)), (.int .i64 (1)), (.int .i64 (100)), (.int .i64 (110))], [(.int .i64 (1)), (.int .i64 (1)), (.int .i64 (105)), (.int .i64 (120))], [(.int .i64 (0)), (.int .i64 (0)), (.int .i64 (115)), (.int .i64 (130))], [(.int .i64 (1)), (.int .i64 (2)), (.int .i64 (125)), (.int .i64 (125))]]), (.sl [])])], (.bool true)),
  (61, [(.agg [(.sl [[(.str ⟨#[108, 97, 109, 112]⟩), (.int .i64 (2)), (.int .i64 (0))], [(.str ⟨#[119, 97, 116, 99, 104]⟩), (.int .i64 (3)), (.int .i64 (0))]]), (.sl [[(.int .i64 (0)), (.int .i64 (1)), (.int .i64 (100)), (.int .i64 (110))], [(.int .i64 (1)), (.int .i64 (1)), (.int .i64 (105)), (.int .i64 (120))], [(.int .i64 (0)), (.int .i64 (0)), (.int .i64 (115)), (.int .i64 (130))], [(.int .i64 (1)), (.int .i64 (2)), (.int .i64 (125)), (.int .i64 (125))]]), (.sl [])]), (.int .i64 (0)), (.int .i64 (126))], (.sl [[(.int .i64 (0))]]))]
theorem kn15_ok : ∀ e ∈ kn15_tb, Known E e := fun e he => by
  simp only [kn15_tb, List.mem_cons, List.not_mem_nil, or_false] at he
  rcases he with rfl | rfl | rfl
  · exact kn2
  · exact kn11
  · exact kn14
theorem kn15 : Known E (16, [(.agg [(.sl [[(.str ⟨#[108, 97, 109, 112]⟩), (.int .i64 (2)), (.int .i64 (0))], [(.str ⟨#[119, 97, 116, 99, 104]⟩), (.int .i64 (3)), (.int .i64 (0))]]), (.sl [[(.int .i64 (0)), (.int .i64 (1)), (.int .i64 (100)), (.int .i64 (110))], [(.int .i64 (1)), (.int .i64 (1)), (.int .i64 (105)), (.int .i64 (120))], [(.int .i64 (0)), (.int .i64 (0)), (.int .i64 (115)), (.int .i64 (130))], [(.int .i64 (1)), (.int .i64 (2)), (.int .i64 (125)), (.int .i64 (125))]])]), (.sl []), (.int .i64 (0)), (.int .i64 (126))], (.tup [(.sl [[(.int .i64 (0))]]), (.int .i64 (0))])) := topF_known (n := 60) kn15_ok (by kernel_rfl)
end Nore
set_option maxRecDepth 100000
namespace Nore
open Go Go.Ab Go.Proofs Go.Proofs.YtlngokonhalcdaaGreatDoor
def kn16_tb : List (Nat × List DV × DV) := [(58, [(.agg [(.sl [[(.str ⟨#[108, 97, 109, 112]⟩), (.int .i64 (2)), (.int .i64 (0))], [(.str ⟨#[119, 97, 116, 99, 104]⟩), (.int .i64 (3)), (.int .i64 (0))]]), (.sl [[(.int .i64 (0)), (.int .i64 (1)), (.int .i64 (100)), (.int .i64 (110))], [(.int .i64 (1)), (.int .i64 (1)), (.int .i64 (105)), (.int .i64 (120))], [(.int .i64 (0)), (.int .i64 (0)), (.int .i64 (115)), (.int .i64 (130))], [(.int .i64 (1)), (.int .i64 (2)), (.int .i64 (125)), (.int .i64 (125))]])]), (.sl [])], (.tup [(.agg [(.sl [[(.str ⟨#[108, 97, 109, 112]⟩), (.int .i64 (2)), (.int .i64 (0))], [(.str ⟨#[119, 97, 116, 99, 104]⟩), (.int .i64 (3)), (.int .i64 (0))]]), (.sl [[(.int .i64 (0)), (.int .i64 (1)), (.int .i64 (100)), (.int .i64 (110))], [(.int .i64 (1)), (.int .i64 (1)), (.int .i64 (105)), (.int .i64 (120))], [(.int .i64 (0)), (.int .i64 (0)), (.int .i64 (115)), (.int .i64 (130))], [(.int .i64 (1)), (.int .i64 (2)), (.int .i64 (125)), (.int .i64 (125))]]), (.sl [])]), (.int .i64 (0))])),
  (60, [(.agg [(.sl [[(.str ⟨#[108, 97, 109, 112]⟩), (.int .i64 (2)), (.int .i64 (0))], [(.str ⟨#[119, 97, 116, 99, 104]⟩), (.int .i64 (3)), (.int .i64 (0))]]), (.sl [[(.int .i64 (0)), (.int .i64 (1)), (.int .i64 (100)), (.int .i64 (110))], [(.int .i64 (1)), (.int .i64 (1)), (.int .i64 (105)), (.int .i64 (120))], [(.int .i64 (0)), (.int .i64 (0)), (.int .i64 (115)), (.int .i64 (130))], [(.int .i64 (1)), (.int .i64 (2)), (.int .i64 (125)), (.int .i64 (125))]]), (.sl [])])], (.bool true))]
theorem kn16_ok : ∀ e ∈ kn16_tb, Known E e := fun e he => by
  simp only [kn16_tb, List.mem_cons, List.not_mem_nil, or_false] at he
  rcases he with rfl | rfl
  · exact kn2
  · exact kn11
theorem kn16 : Known E (65, [(.agg [(.sl [[(.str ⟨#[108, 97, 109, 112]⟩), (.int .i64 (2)), (.int .i64 (0))], [(.str ⟨#[119, 97, 116, 99, 104]⟩), (.int .i64 (3)), (.int .i64 (0))]]), (.sl [[(.int .i64 (0)), (.int .i64 (1)), (.int .i64 (100)), (.int .i64 (110))], [(.int .i64 (1)), (.int .i64 (1)), (.int .i64 (105)), (.int .i64 (120))], [(.int .i64 (0)), (.int .i64 (0)), (.int .i64 (115)), (.int .i64 (130))], [(.int .i64 (1)), (.int .i64 (2)), (.int .i64 (125)), (.int .i64 (125))]])]), (.sl []), (.agg [(.int .i64 (0)), (.int .i64 (1)), (.int .i64 (118)), (.int .i64 (118))])], (.tup [(.agg [(.sl [[(.str ⟨#[108, 97, 109, 112]⟩), (.int .i64 (2)), (.int .i64 (0))], [(.str ⟨#[119, 97, 116, 99, 104]⟩), (.int .i64 (3)), (.int .i64 (0))]]), (.sl [[(.int .i64 (0)), (.int .i64 (1)), (.int .i64 (100)), (.int .i64 (110))], [(.int .i64 (1)), (.int .i64 (1)), (.int .i64 (105)), (.int .i64 (120))], [(.int .i64 (0)), (.int .i64 (0)), (.int .i64 (115)), (.int .i64 (130))], [(.int .i64 (1)), (.int .i64 (2)), (.int .i64 (125)), (.int .i64 (125))]]), (.sl [])]), (.int .i64 (0))])) := topF_known (n := 60) kn16_ok (by kernel_rfl)
end Nore
set_option maxRecDepth 100000
namespace Nore
open Go Go.Ab Go.Proofs Go.Proofs.YtlngokonhalcdaaGreatDoor
theorem kn17 : Known E (60, [(.agg [(.sl [[(.str ⟨#[108, 97, 109, 112]⟩), (.int .i64 (2)), (.int .i64 (0))], [(.str ⟨#[119, 97, 116, 99, 104]⟩), (.int .i64 (3)), (.int .i64 (0))]]), (.sl [[(.int .i64 (0)), (.int .i64 (1)), (.int .i64 (100)), (.int .i64 (110))], [(.int .i64 (1)), (.int .i64 (1)), (.int .i64 (105)), (.int .i64 (120))], [(.int .i64 (0)), (.int .i64 (0)), (.int .i64 (115)), (.int .i64 (130))], [(.int .i64 (1)), (.int .i64 (2)), (.int .i64 (125)), (.int .i64 (125))]]), (.sl [[(.int .i64 (0)), (.int .i64 (0)), (.int .i64 (118)), (.int .i64 (118))]])])], (.bool true)) := ⟨60, by kernel_rfl⟩
theorem kn18 : Known E (60, [(.agg [(.sl [[(.str ⟨#[108, 97, 109, 112]⟩), (.int .i64 (2)), (.int .i64 (0))], [(.str ⟨#[119, 97, 116, 99, 104]⟩), (.int .i64 (3)), (.int .i64 (0))]]), (.sl [[(.int .i64 (0)), (.int .i64 (1)), (.int .i64 (100)), (.int .i64 (110))], [(.int .i64 (1)), (.int .i64 (1)), (.int .i64 (105)), (.int .i64 (120))], [(.int .i64 (0)), (.int .i64 (0)), (.int .i64 (115)), (.int .i64 (130))], [(.int .i64 (1)), (.int .i64 (2)), (.int .i64 (125)), (.int .i64 (125))]]), (.sl [[(.int .i64 (0)), (.int .i64 (1)), (.int .i64 (118)), (.int .i64 (118))]])])], (.bool true)) := ⟨60, by kernel_rfl⟩
end Nore
set_option maxRecDepth 100000
namespace Nore
open Go Go.Ab Go.Proofs Go.Proofs.YtlngokonhalcdaaGreatDoor
def kn19_tb : List (Nat × List DV × DV) := [(60, [(.agg [(.sl [[(.str ⟨#[108, 97, 109, 112]⟩), (.int .i64 (2)), (.int .i64 (0))], [(.str ⟨#[119, 97, 116, 99, 104]⟩), (.int .i64 (3)), (.int .i64 (0))]]), (.sl [[(.int .i64 (0)), (.int .i64 (1)), (.int .i64 (100)), (.int .i64 (110))], [(.int .i64 (1)), (.int .i64 (1)), (.int .i64 (105)), (.int .i64 (120))], [(.int .i64 (0)), (.int .i64 (0)), (.int .i64 (115)), (.int .i64 (130))], [(.int .i64 (1)), (.int .i64 (2)), (.int .i64 (125)), (.int .i64 (125))]]), (.sl [[(.int .i64 (0)), (.int .i64 (0)), (.int .i64 (118)), (.int .i64 (118))]])])], (.bool true)),
  (60, [(.agg [(.sl [[(.str ⟨#[108, 97, 109, 112]⟩), (.int .i64 (2)), (.int .i64 (0))], [(.str ⟨#[119, 97, 116, 99, 104]⟩), (.int .i64 (3)), (.int .i64 (0))]]), (.sl [[(.int .i64 (0)), (.int .i64 (1)), (.int .i64 (100)), (.int .i64 (110))], [(.int .i64 (1)), (.int .i64 (1)), (.int .i64 (105)), (.int .i64 (120))], [(.int .i64 (0)), (.int .i64 (0)), (.int .i64 (115)), (.int .i64 (130))], [(.int .i64 (1)), (.int .i64 (2)), (.int .i64 (125)), (.int .i64 (125))]]), (.sl [[(.int .i64 (0)), (.int .i64 (1)), (.int .i64 (118)), (.int .i64 (118))]])])], (.bool true))]
theorem kn19_ok : ∀ e ∈ kn19_tb, Known E e := fun e he => by
  simp only [kn19_tb, List.mem_cons, List.not_mem_nil, or_false] at he
  rcases he with rfl | rfl
  · exact kn17
  · exact kn18
theorem kn19 : Known E (61, [(.agg [(.sl [[(.str ⟨#[108, 97, 109, 112]⟩), (.int .i64 (2)), (.int .i64 (0))], [(.str ⟨#[119, 97, 116, 99, 104]⟩), (.int .i64 (3)), (.int .i64 (0))]]), (.sl [[(.int .i64 (0)), (.int .i64 (1)), (.int .i64 (100)), (.int .i64 (110))], [(.int .i64 (1)), (.int .i64 (1)), (.int .i64 (105)), (.int .i64 (120))], [(.int .i64 (0)), (.int .i64 (0)), (.int .i64 (115)), (.int .i64 (130))], [(.int .i64 (1)), (.int .i64 (2)), (.int .i64 (125)), (.int .i64 (125))]]), (.sl [])]), (.int .i64 (0)), (.int .i64 (118))], (.sl [[(.int .i64 (0))], [(.int .i64 (1))]])) := topF_known (n := 60) kn19_ok (by kernel_rfl)
end Nore
set_option maxRecDepth 100000
namespace Nore
open Go Go.Ab Go.Proofs Go.Proofs.YtlngokonhalcdaaGreatDoor
def kn20_tb : List (Nat × List DV × DV) := [(61, [(.agg [(.sl [[(.str ⟨#[108, 97, 109, 112]⟩), (.int .i64 (2)), (.int .i64 (0))], [(.str ⟨#[119, 97, 116, 99, 104]⟩), (.int .i64 (3)), (.int .i64 (0))]]), (.sl [[(.int .i64 (0)), (.int .i64 (1)), (.int .i64 (100)), (.int .i64 (110))], [(.int .i64 (1)), (.int .i64 (1)), (.int .i64 (105)), (.int .i64 (120))], [(.int .i64 (0)), (.int .i64 (0)), (.int .i64 (115)), (.int .i64 (130))], [(.int .i64 (1)), (.int .i64 (2)), (.int .i64 (125)), (.int .i64 (125))]]), (.sl [])]), (.int .i64 (0)), (.int .i64 (118))], (.sl [[(.int .i64 (0))], [(.int .i64 (1))]]))]
theorem kn20_ok : ∀ e ∈ kn20_tb, Known E e := fun e he => by
  simp only [kn20_tb, List.mem_cons, List.not_mem_nil, or_false] at he
  rcases he with rfl
  · exact kn19
theorem kn20 : Known E (66, [(.agg [(.sl [[(.str ⟨#[108, 97, 109, 112]⟩), (.int .i64 (2)), (.int .i64 (0))], [(.str ⟨#[119, 97, 116, 99, 104]⟩), (.int .i64 (3)), (.int .i64 (0))]]), (.sl [[(.int .i64 (0)), (.int .i64 (1)), (.int .i64 (100)), (.int .i64 (110))], [(.int .i64 (1)), (.int .i64 (1)), (.int .i64 (105)), (.int .i64 (120))], [(.int .i64 (0)), (.int .i64 (0)), (.int .i64 (115)), (.int .i64 (130))], [(.int .i64 (1)), (.int .i64 (2)), (.int .i64 (125)), (.int .i64 (125))]]), (.sl [])]), (.agg [(.int .i64 (0)), (.int .i64 (1)), (.int .i64 (118)), (.int .i64 (118))])], (.int .i64 (1))) := topF_known (n := 60) kn20_ok (by kernel_rfl)
end Nore
set_option maxRecDepth 100000
namespace Nore
open Go Go.Ab Go.Proofs Go.Proofs.YtlngokonhalcdaaGreatDoor
def kn21_tb : List (Nat × List DV × DV) := [(65, [(.agg [(.sl [[(.str ⟨#[108, 97, 109, 112]⟩), (.int .i64 (2)), (.int .i64 (0))], [(.str ⟨#[119, 97, 116, 99, 104]⟩), (.int .i64 (3)), (.int .i64 (0))]]), (.sl [[(.int .i64 (0)), (.int .i64 (1)), (.int .i64 (100)), (.int .i64 (110))], [(.int .i64 (1)), (.int .i64 (1)), (.int .i64 (105)), (.int .i64 (120))], [(.int .i64 (0)), (.int .i64 (0)), (.int .i64 (115)), (.int .i64 (130))], [(.int .i64 (1)), (.int .i64 (2)), (.int .i64 (125)), (.int .i64 (125))]])]), (.sl []), (.agg [(.int .i64 (0)), (.int .i64 (1)), (.int .i64 (118)), (.int .i64 (118))])], (.tup [(.agg [(.sl [[(.str ⟨#[108, 97, 109, 112]⟩), (.int .i64 (2)), (.int .i64 (0))], [(.str ⟨#[119, 97, 116, 99, 104]⟩), (.int .i64 (3)), (.int .i64 (0))]]), (.sl [[(.int .i64 (0)), (.int .i64 (1)), (.int .i64 (100)), (.int .i64 (110))], [(.int .i64 (1)), (.int .i64 (1)), (.int .i64 (105)), (.int .i64 (120))], [(.int .i64 (0)), (.int .i64 (0)), (.int .i64 (115)), (.int .i64 (130))], [(.int .i64 (1)), (.int .i64 (2)), (.int .i64 (125)), (.int .i64 (125))]]), (.sl [])]), (.int .i64 (0))])),
  (66, [(.agg [(.sl [[(.str ⟨#[108, 97, 109, 112]⟩), (.int .i64 (2)), (.int .i64 (0))], [(.str ⟨#[119, 97, 116, 99, 104]⟩), (.int .i64 (3)), (.int .i64 (0))]]), (.sl [[(.int .i64 (0)), (.int .i64 (1)), (.int .i64 (100)), (.int .i64 (110))], [(.int .i64 (1)), (.int .i64 (1)), (.int .i64 (105)), (.int .i64 (120))], [(.int .i64 (0)), (.int .i64 (0)), (.int .i64 (115)), (.int .i64 (130))], [(.int .i64 (1)), (.int .i64 (2)), (.int .i64 (125)), (.int .i64 (125))]]), (.sl [])]), (.agg [(.int .i64 (0)), (.int .i64 (1)), (.int .i64 (118)), (.int .i64 (118))])], (.int .i64 (1)))]
theorem kn21_ok : ∀ e ∈ kn21_tb, Known E e := fun e he => by
  simp only [kn21_tb, List.mem_cons, List.not_mem_nil, or_false] at he
  rcases he with rfl | rfl
  · exact kn16
  · exact kn20
theorem kn21 : Known E (20, [(.agg [(.sl [[(.str ⟨#[108, 97, 109, 112]⟩), (.int .i64 (2)), (.int .i64 (0))], [(.str ⟨#[119, 97, 116, 99, 104]⟩), (.int .i64 (3)), (.int .i64 (0))]]), (.sl [[(.int .i64 (0)), (.int .i64 (1)), (.int .i64 (100)), (.int .i64 (110))], [(.int .i64 (1)), (.int .i64 (1)), (.int .i64 (105)), (.int .i64 (120))], [(.int .i64 (0)), (.int .i64 (0)), (.int .i64 (115)), (.int .i64 (130))], [(.int .i64 (1)), (.int .i64 (2)), (.int .i64 (125)), (.int .i64 (125))]])]), (.sl []), (.agg [(.int .i64 (0)), (.int .i64 (1)), (.int .i64 (118)), (.int .i64 (118))])], (.tup [(.int .i64 (1)), (.int .i64 (0))])) := topF_known (n := 60) kn21_ok (by kernel_rfl)
end Nore
