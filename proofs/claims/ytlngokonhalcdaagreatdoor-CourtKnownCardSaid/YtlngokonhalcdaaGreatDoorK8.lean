/- Calls that the examples make, run. -/
import Derived.Test.YtlngokonhalcdaaGreatDoorK7
set_option linter.unusedSectionVars false
set_option linter.unusedVariables false
set_option linter.unusedSimpArgs false
set_option maxRecDepth 100000
namespace Nore
open Go Go.Ab Go.Proofs Go.Proofs.YtlngokonhalcdaaGreatDoor
def kn78_tb : List (Nat × List DV × DV) := [(48, [(.agg [(.sl [[(.str ⟨#[108, 97, 109, 112]⟩), (.int .i64 (2)), (.int .i64 (0))], [(.str ⟨#[119, 97, 116, 99, 104]⟩), (.int .i64 (3)), (.int .i64 (0))]]), (.sl [[(.int .i64 (0)), (.int .i64 (1)), (.int .i64 (100)), (.int .i64 (110))], [(.int .i64 (1)), (.int .i64 (1)), (.int .i64 (105)), (.int .i64 (120))], [(.int .i64 (0)), (.int .i64 (0)), (.int .i64 (115)), (.int .i64 (130))], [(.int .i64 (1)), (.int .i64 (2)), (.int .i64 (125)), (.int .i64 (125))]])]), (.sl [[(.int .i64 (0)), (.int .i64 (1)), (.int .i64 (118)), (.int .i64 (119))], [(.int .i64 (1)), (.int .i64 (2)), (.int .i64 (0)), (.int .i64 (124))]])], (.tup [(.int .i64 (0)), (.int .i64 (0))]))]
theorem kn78_ok : ∀ e ∈ kn78_tb, Known E e := fun e he => by
  simp only [kn78_tb, List.mem_cons, List.not_mem_nil, or_false] at he
  rcases he with rfl
  · exact kn77
theorem kn78 : Known E (58, [(.agg [(.sl [[(.str ⟨#[108, 97, 109, 112]⟩), (.int .i64 (2)), (.int .i64 (0))], [(.str ⟨#[119, 97, 116, 99, 104]⟩), (.int .i64 (3)), (.int .i64 (0))]]), (.sl [[(.int .i64 (0)), (.int .i64 (1)), (.int .i64 (100)), (.int .i64 (110))], [(.int .i64 (1)), (.int .i64 (1)), (.int .i64 (105)), (.int .i64 (120))], [(.int .i64 (0)), (.int .i64 (0)), (.int .i64 (115)), (.int .i64 (130))], [(.int .i64 (1)), (.int .i64 (2)), (.int .i64 (125)), (.int .i64 (125))]])]), (.sl [[(.int .i64 (0)), (.int .i64 (1)), (.int .i64 (118)), (.int .i64 (119))], [(.int .i64 (1)), (.int .i64 (2)), (.int .i64 (0)), (.int .i64 (124))]])], (.tup [(.agg [(.sl [[(.str ⟨#[108, 97, 109, 112]⟩), (.int .i64 (2)), (.int .i64 (0))], [(.str ⟨#[119, 97, 116, 99, 104]⟩), (.int .i64 (3)), (.int .i64 (0))]]), (.sl [[(.int .i64 (0)), (.int .i64 (1)), (.int .i64 (100)), (.int .i64 (110))], [(.int .i64 (1)), (.int .i64 (1)), (.int .i64 (105)), (.int .i64 (120))], [(.int .i64 (0)), (.int .i64 (0)), (.int .i64 (115)), (.int .i64 (130))], [(.int .i64 (1)), (.int .i64 (2)), (.int .i64 (125)), (.int .i64 (125))]]), (.sl [[(.int .i64 (0)), (.int .i64 (1)), (.int .i64 (118)), (.int .i64 (119))], [(.int .i64 (1)), (.int .i64 (2)), (.int .i64 (0)), (.int .i64 (124))]])]), (.int .i64 (0))])) := topF_known (n := 60) kn78_ok (by kernel_rfl)
end Nore
set_option maxRecDepth 100000
namespace Nore
open Go Go.Ab Go.Proofs Go.Proofs.YtlngokonhalcdaaGreatDoor
theorem kn79 : Known E (60, [(.agg [(.sl [[(.str ⟨#[108, 97, 109, 112]⟩), (.int .i64 (2)), (.int .i64 (0))], [(.str ⟨#[119, 97, 116, 99, 104]⟩), (.int .i64 (3)), (.int .i64 (0))]]), (.sl [[(.int .i64 (0)), (.int .i64 (1)), (.int .i64 (100)), (.int .i64 (110))], [(.int .i64 (1)), (.int .i64 (1)), (.int .i64 (105)), (.int .i64 (120))], [(.int .i64 (0)), (.int .i64 (0)), (.int .i64 (115)), (.int .i64 (130))], [(.int .i64 (1)), (.int .i64 (2)), (.int .i64 (125)), (.int .i64 (125))]]), (.sl [[(.int .i64 (0)), (.int .i64 (1)), (.int .i64 (118)), (.int .i64 (119))], [(.int .i64 (1)), (.int .i64 (2)), (.int .i64 (0)), (.int .i64 (124))]])])], (.bool false)) := ⟨60, by kernel_rfl⟩
theorem kn80 : Known E (60, [(.agg [(.sl [[(.str ⟨#[108, 97, 109, 112]⟩), (.int .i64 (2)), (.int .i64 (0))], [(.str ⟨#[119, 97, 116, 99, 104]⟩), (.int .i64 (3)), (.int .i64 (0))]]), (.sl [[(.int .i64 (0)), (.int .i64 (1)), (.int .i64 (100)), (.int .i64 (110))], [(.int .i64 (1)), (.int .i64 (1)), (.int .i64 (105)), (.int .i64 (120))], [(.int .i64 (0)), (.int .i64 (0)), (.int .i64 (115)), (.int .i64 (130))], [(.int .i64 (1)), (.int .i64 (2)), (.int .i64 (125)), (.int .i64 (125))]]), (.sl [[(.int .i64 (1)), (.int .i64 (2)), (.int .i64 (0)), (.int .i64 (124))]])])], (.bool false)) := ⟨60, by kernel_rfl⟩
end Nore
set_option maxRecDepth 100000
namespace Nore
open Go Go.Ab Go.Proofs Go.Proofs.YtlngokonhalcdaaGreatDoor
def kn81_tb : List (Nat × List DV × DV) := [(58, [(.agg [(.sl [[(.str ⟨#[108, 97, 109, 112]⟩), (.int .i64 (2)), (.int .i64 (0))], [(.str ⟨#[119, 97, 116, 99, 104]⟩), (.int .i64 (3)), (.int .i64 (0))]]), (.sl [[(.int .i64 (0)), (.int .i64 (1)), (.int .i64 (100)), (.int .i64 (110))], [(.int .i64 (1)), (.int .i64 (1)), (.int .i64 (105)), (.int .i64 (120))], [(.int .i64 (0)), (.int .i64 (0)), (.int .i64 (115)), (.int .i64 (130))], [(.int .i64 (1)), (.int .i64 (2)), (.int .i64 (125)), (.int .i64 (125))]])]), (.sl [[(.int .i64 (0)), (.int .i64 (1)), (.int .i64 (118)), (.int .i64 (119))], [(.int .i64 (1)), (.int .i64 (2)), (.int .i64 (0)), (.int .i64 (124))]])], (.tup [(.agg [(.sl [[(.str ⟨#[108, 97, 109, 112]⟩), (.int .i64 (2)), (.int .i64 (0))], [(.str ⟨#[119, 97, 116, 99, 104]⟩), (.int .i64 (3)), (.int .i64 (0))]]), (.sl [[(.int .i64 (0)), (.int .i64 (1)), (.int .i64 (100)), (.int .i64 (110))], [(.int .i64 (1)), (.int .i64 (1)), (.int .i64 (105)), (.int .i64 (120))], [(.int .i64 (0)), (.int .i64 (0)), (.int .i64 (115)), (.int .i64 (130))], [(.int .i64 (1)), (.int .i64 (2)), (.int .i64 (125)), (.int .i64 (125))]]), (.sl [[(.int .i64 (0)), (.int .i64 (1)), (.int .i64 (118)), (.int .i64 (119))], [(.int .i64 (1)), (.int .i64 (2)), (.int .i64 (0)), (.int .i64 (124))]])]), (.int .i64 (0))])),
  (60, [(.agg [(.sl [[(.str ⟨#[108, 97, 109, 112]⟩), (.int .i64 (2)), (.int .i64 (0))], [(.str ⟨#[119, 97, 116, 99, 104]⟩), (.int .i64 (3)), (.int .i64 (0))]]), (.sl [[(.int .i64 (0)), (.int .i64 (1)), (.int .i64 (100)), (.int .i64 (110))], [(.int .i64 (1)), (.int .i64 (1)), (.int .i64 (105)), (.int .i64 (120))], [(.int .i64 (0)), (.int .i64 (0)), (.int .i64 (115)), (.int .i64 (130))], [(.int .i64 (1)), (.int .i64 (2)), (.int .i64 (125)), (.int .i64 (125))]]), (.sl [[(.int .i64 (0)), (.int .i64 (1)), (.int .i64 (118)), (.int .i64 (119))], [(.int .i64 (1)), (.int .i64 (2)), (.int .i64 (0)), (.int .i64 (124))]])])], (.bool false)),
  (60, [(.agg [(.sl [[(.str ⟨#[108, 97, 109, 112]⟩), (.int .i64 (2)), (.int .i64 (0))], [(.str ⟨#[119, 97, 116, 99, 104]⟩), (.int .i64 (3)), (.int .i64 (0))]]), (.sl [[(.int .i64 (0)), (.int .i64 (1)), (.int .i64 (100)), (.int .i64 (110))], [(.int .i64 (1)), (.int .i64 (1)), (.int .i64 (105)), (.int .i64 (120))], [(.int .i64 (0)), (.int .i64 (0)), (.int .i64 (115)), (.int .i64 (130))], [(.int .i64 (1)), (.int .i64 (2)), (.int .i64 (125)), (.int .i64 (125))]]), (.sl [[(.int .i64 (1)), (.int .i64 (2)), (.int .i64 (0)), (.int .i64 (124))]])])], (.bool false)),
  (60, [(.agg [(.sl [[(.str ⟨#[108, 97, 109, 112]⟩), (.int .i64 (2)), (.int .i64 (0))], [(.str ⟨#[119, 97, 116, 99, 104]⟩), (.int .i64 (3)), (.int .i64 (0))]]), (.sl [[(.int .i64 (0)), (.int .i64 (1)), (.int .i64 (100)), (.int .i64 (110))], [(.int .i64 (1)), (.int .i64 (1)), (.int .i64 (105)), (.int .i64 (120))], [(.int .i64 (0)), (.int .i64 (0)), (.int .i64 (115)), (.int .i64 (130))], [(.int .i64 (1)), (.int .i64 (2)), (.int .i64 (125)), (.int .i64 (125))]]), (.sl [[(.int .i64 (0)), (.int .i64 (1)), (.int .i64 (118)), (.int .i64 (119))]])])], (.bool true))]
theorem kn81_ok : ∀ e ∈ kn81_tb, Known E e := fun e he => by
  simp only [kn81_tb, List.mem_cons, List.not_mem_nil, or_false] at he
  rcases he with rfl | rfl | rfl | rfl
  · exact kn78
  · exact kn79
  · exact kn80
  · exact kn6
theorem kn81 : Known E (24, [(.agg [(.sl [[(.str ⟨#[108, 97, 109, 112]⟩), (.int .i64 (2)), (.int .i64 (0))], [(.str ⟨#[119, 97, 116, 99, 104]⟩), (.int .i64 (3)), (.int .i64 (0))]]), (.sl [[(.int .i64 (0)), (.int .i64 (1)), (.int .i64 (100)), (.int .i64 (110))], [(.int .i64 (1)), (.int .i64 (1)), (.int .i64 (105)), (.int .i64 (120))], [(.int .i64 (0)), (.int .i64 (0)), (.int .i64 (115)), (.int .i64 (130))], [(.int .i64 (1)), (.int .i64 (2)), (.int .i64 (125)), (.int .i64 (125))]])]), (.sl [[(.int .i64 (0)), (.int .i64 (1)), (.int .i64 (118)), (.int .i64 (119))], [(.int .i64 (1)), (.int .i64 (2)), (.int .i64 (0)), (.int .i64 (124))]])], (.tup [(.sl [[(.int .i64 (1))]]), (.int .i64 (0))])) := topF_known (n := 60) kn81_ok (by kernel_rfl)
end Nore
set_option maxRecDepth 100000
namespace Nore
open Go Go.Ab Go.Proofs Go.Proofs.YtlngokonhalcdaaGreatDoor
theorem kn82 : Known E (46, [(.agg [(.sl [[(.str ⟨#[108, 97, 109, 112]⟩), (.int .i64 (2)), (.int .i64 (0))]]), (.sl [])])], (.tup [(.int .i64 (0)), (.int .i64 (0)), (.int .i64 (0))])) := ⟨60, by kernel_rfl⟩
theorem kn83 : Known E (72, [(.agg [(.sl [[(.str ⟨#[108, 97, 109, 112]⟩), (.int .i64 (2)), (.int .i64 (0))]]), (.sl [])])], (.str ⟨#[100, 101, 118, 105, 99, 101, 32, 108, 97, 109, 112, 32, 50, 32, 48, 32, 52, 56, 48, 52, 53, 10]⟩)) := ⟨60, by kernel_rfl⟩
end Nore
set_option maxRecDepth 100000
namespace Nore
open Go Go.Ab Go.Proofs Go.Proofs.YtlngokonhalcdaaGreatDoor
def kn84_tb : List (Nat × List DV × DV) := [(46, [(.agg [(.sl [[(.str ⟨#[108, 97, 109, 112]⟩), (.int .i64 (2)), (.int .i64 (0))]]), (.sl [])])], (.tup [(.int .i64 (0)), (.int .i64 (0)), (.int .i64 (0))])),
  (72, [(.agg [(.sl [[(.str ⟨#[108, 97, 109, 112]⟩), (.int .i64 (2)), (.int .i64 (0))]]), (.sl [])])], (.str ⟨#[100, 101, 118, 105, 99, 101, 32, 108, 97, 109, 112, 32, 50, 32, 48, 32, 52, 56, 48, 52, 53, 10]⟩))]
theorem kn84_ok : ∀ e ∈ kn84_tb, Known E e := fun e he => by
  simp only [kn84_tb, List.mem_cons, List.not_mem_nil, or_false] at he
  rcases he with rfl | rfl
  · exact kn82
  · exact kn83
theorem kn84 : Known E (26, [(.agg [(.sl [[(.str ⟨#[108, 97, 109, 112]⟩), (.int .i64 (2)), (.int .i64 (0))]]), (.sl [])])], (.tup [(.str ⟨#[100, 101, 118, 105, 99, 101, 32, 108, 97, 109, 112, 32, 50, 32, 48, 32, 52, 56, 48, 52, 53, 10]⟩), (.int .i64 (0))])) := topF_known (n := 60) kn84_ok (by kernel_rfl)
end Nore
set_option maxRecDepth 100000
namespace Nore
open Go Go.Ab Go.Proofs Go.Proofs.YtlngokonhalcdaaGreatDoor
theorem kn85 : Known E (28, [(.str ⟨#[100, 101, 118, 105, 99, 101, 32, 108, 97, 109, 112, 32, 50, 32, 48, 32, 52, 56, 48, 52, 53, 10]⟩)], (.tup [(.agg [(.sl [[(.str ⟨#[108, 97, 109, 112]⟩), (.int .i64 (2)), (.int .i64 (0))]]), (.sl [])]), (.int .i64 (0))])) := ⟨60, by kernel_rfl⟩
theorem kn86 : Known E (31, [(.str ⟨#[100, 101, 118, 105, 99, 101, 32, 108, 97, 109, 113, 32, 50, 32, 48, 32, 52, 56, 48, 52, 53, 10]⟩)], (.tup [(.int .i64 (1)), (.int .i64 (0))])) := ⟨60, by kernel_rfl⟩
end Nore
set_option maxRecDepth 100000
namespace Nore
open Go Go.Ab Go.Proofs Go.Proofs.YtlngokonhalcdaaGreatDoor
def kn87_tb : List (Nat × List DV × DV) := [(46, [(.agg [(.sl [[(.str ⟨#[108, 97, 109, 112]⟩), (.int .i64 (2)), (.int .i64 (0))], [(.str ⟨#[119, 97, 116, 99, 104]⟩), (.int .i64 (3)), (.int .i64 (0))]]), (.sl [[(.int .i64 (0)), (.int .i64 (1)), (.int .i64 (100)), (.int .i64 (110))], [(.int .i64 (1)), (.int .i64 (1)), (.int .i64 (105)), (.int .i64 (120))], [(.int .i64 (0)), (.int .i64 (0)), (.int .i64 (115)), (.int .i64 (130))], [(.int .i64 (1)), (.int .i64 (2)), (.int .i64 (125)), (.int .i64 (125))]])])], (.tup [(.int .i64 (0)), (.int .i64 (0)), (.int .i64 (0))]))]
theorem kn87_ok : ∀ e ∈ kn87_tb, Known E e := fun e he => by
  simp only [kn87_tb, List.mem_cons, List.not_mem_nil, or_false] at he
  rcases he with rfl
  · exact kn0
theorem kn87 : Known E (48, [(.agg [(.sl [[(.str ⟨#[108, 97, 109, 112]⟩), (.int .i64 (2)), (.int .i64 (0))], [(.str ⟨#[119, 97, 116, 99, 104]⟩), (.int .i64 (3)), (.int .i64 (0))]]), (.sl [[(.int .i64 (0)), (.int .i64 (1)), (.int .i64 (100)), (.int .i64 (110))], [(.int .i64 (1)), (.int .i64 (1)), (.int .i64 (105)), (.int .i64 (120))], [(.int .i64 (0)), (.int .i64 (0)), (.int .i64 (115)), (.int .i64 (130))], [(.int .i64 (1)), (.int .i64 (2)), (.int .i64 (125)), (.int .i64 (125))]])]), (.sl [[(.int .i64 (1)), (.int .i64 (2)), (.int .i64 (124)), (.int .i64 (124))]])], (.tup [(.int .i64 (0)), (.int .i64 (0))])) := topF_known (n := 60) kn87_ok (by kernel_rfl)
end Nore
set_option maxRecDepth 100000
namespace Nore
open Go Go.Ab Go.Proofs Go.Proofs.YtlngokonhalcdaaGreatDoor
def kn88_tb : List (Nat × List DV × DV) := [(48, [(.agg [(.sl [[(.str ⟨#[108, 97, 109, 112]⟩), (.int .i64 (2)), (.int .i64 (0))], [(.str ⟨#[119, 97, 116, 99, 104]⟩), (.int .i64 (3)), (.int .i64 (0))]]), (.sl [[(.int .i64 (0)), (.int .i64 (1)), (.int .i64 (100)), (.int .i64 (110))], [(.int .i64 (1)), (.int .i64 (1)), (.int .i64 (105)), (.int .i64 (120))], [(.int .i64 (0)), (.int .i64 (0)), (.int .i64 (115)), (.int .i64 (130))], [(.int .i64 (1)), (.int .i64 (2)), (.int .i64 (125)), (.int .i64 (125))]])]), (.sl [[(.int .i64 (1)), (.int .i64 (2)), (.int .i64 (124)), (.int .i64 (124))]])], (.tup [(.int .i64 (0)), (.int .i64 (0))]))]
theorem kn88_ok : ∀ e ∈ kn88_tb, Known E e := fun e he => by
  simp only [kn88_tb, List.mem_cons, List.not_mem_nil, or_false] at he
  rcases he with rfl
  · exact kn87
theorem kn88 : Known E (58, [(.agg [(.sl [[(.str ⟨#[108, 97, 109, 112]⟩), (.int .i64 (2)), (.int .i64 (0))], [(.str ⟨#[119, 97, 116, 99, 104]⟩), (.int .i64 (3)), (.int .i64 (0))]]), (.sl [[(.int .i64 (0)), (.int .i64 (1)), (.int .i64 (100)), (.int .i64 (110))], [(.int .i64 (1)), (.int .i64 (1)), (.int .i64 (105)), (.int .i64 (120))], [(.int .i64 (0)), (.int .i64 (0)), (.int .i64 (115)), (.int .i64 (130))], [(.int .i64 (1)), (.int .i64 (2)), (.int .i64 (125)), (.int .i64 (125))]])]), (.sl [[(.int .i64 (1)), (.int .i64 (2)), (.int .i64 (124)), (.int .i64 (124))]])], (.tup [(.agg [(.sl [[(.str ⟨#[108, 97, 109, 112]⟩), (.int .i64 (2)), (.int .i64 (0))], [(.str ⟨#[119, 97, 116, 99, 104]⟩), (.int .i64 (3)), (.int .i64 (0))]]), (.sl [[(.int .i64 (0)), (.int .i64 (1)), (.int .i64 (100)), (.int .i64 (110))], [(.int .i64 (1)), (.int .i64 (1)), (.int .i64 (105)), (.int .i64 (120))], [(.int .i64 (0)), (.int .i64 (0)), (.int .i64 (115)), (.int .i64 (130))], [(.int .i64 (1)), (.int .i64 (2)), (.int .i64 (125)), (.int .i64 (125))]]), (.sl [[(.int .i64 (1)), (.int .i64 (2)), (.int .i64 (124)), (.int .i64 (124))]])]), (.int .i64 (0))])) := topF_known (n := 60) kn88_ok (by kernel_rfl)
end Nore
set_option maxRecDepth 100000
namespace Nore
open Go Go.Ab Go.Proofs Go.Proofs.YtlngokonhalcdaaGreatDoor
def kn89_tb : List (Nat × List DV × DV) := [(58, [(.agg [(.sl [[(.str ⟨#[108, 97, 109, 112]⟩), (.int .i64 (2)), (.int .i64 (0))], [(.str ⟨#[119, 97, 116, 99, 104]⟩), (.int .i64 (3)), (.int .i64 (0))]]), (.sl [[(.int .i64 (0)), (.int .i64 (1)), (.int .i64 (100)), (.int .i64 (110))], [(.int .i64 (1)), (.int .i64 (1)), (.int .i64 (105)), (.int .i64 (120))], [(.int .i64 (0)), (.int .i64 (0)), (.int .i64 (115)), (.int .i64 (130))], [(.int .i64 (1)), (.int .i64 (2)), (.int .i64 (125)), (.int .i64 (125))]])]), (.sl [[(.int .i64 (1)), (.int .i64 (2)), (.int .i64 (124)), (.int .i64 (124))]])], (.tup [(.agg [(.sl [[(.str ⟨#[108, 97, 109, 112]⟩), (.int .i64 (2)), (.int .i64 (0))], [(.str ⟨#[119, 97, 116, 99, 104]⟩), (.int .i64 (3)), (.int .i64 (0))]]), (.sl [[(.int .i64 (0)), (.int .i64 (1)), (.int .i64 (100)), (.int .i64 (110))], [(.int .i64 (1)), (.int .i64 (1)), (.int .i64 (105)), (.int .i64 (120))], [(.int .i64 (0)), (.int .i64 (0)), (.int .i64 (115)), (.int .i64 (130))], [(.int .i64 (1)), (.int .i64 (2)), (.int .i64 (125)), (.int .i64 (125))]]), (.sl [[(.int .i64 (1)), (.int .i64 (2)), (.int .i64 (124)), (.int .i64 (124))]])]), (.int .i64 (0))]))]
theorem kn89_ok : ∀ e ∈ kn89_tb, Known E e := fun e he => by
  simp only [kn89_tb, List.mem_cons, List.not_mem_nil, or_false] at he
  rcases he with rfl
  · exact kn88
theorem kn89 : Known E (34, [(.agg [(.sl [[(.str ⟨#[108, 97, 109, 112]⟩), (.int .i64 (2)), (.int .i64 (0))], [(.str ⟨#[119, 97, 116, 99, 104]⟩), (.int .i64 (3)), (.int .i64 (0))]]), (.sl [[(.int .i64 (0)), (.int .i64 (1)), (.int .i64 (100)), (.int .i64 (110))], [(.int .i64 (1)), (.int .i64 (1)), (.int .i64 (105)), (.int .i64 (120))], [(.int .i64 (0)), (.int .i64 (0)), (.int .i64 (115)), (.int .i64 (130))], [(.int .i64 (1)), (.int .i64 (2)), (.int .i64 (125)), (.int .i64 (125))]])]), (.sl [[(.int .i64 (1)), (.int .i64 (2)), (.int .i64 (124)), (.int .i64 (124))]])], (.tup [(.sl []), (.int .i64 (9))])) := topF_known (n := 60) kn89_ok (by kernel_rfl)
end Nore
