/- Calls that the examples make, run. -/
import Derived.Test.YtlngokonhalcdaaGreatDoorK8
set_option linter.unusedSectionVars false
set_option linter.unusedVariables false
set_option linter.unusedSimpArgs false
set_option maxRecDepth 100000
namespace Nore
open Go Go.Ab Go.Proofs Go.Proofs.YtlngokonhalcdaaGreatDoor
def kn90_tb : List (Nat × List DV × DV) := [(34, [(.agg [(.sl [[(.str ⟨#[108, 97, 109, 112]⟩), (.int .i64 (2)), (.int .i64 (0))], [(.str ⟨#[119, 97, 116, 99, 104]⟩), (.int .i64 (3)), (.int .i64 (0))]]), (.sl [[(.int .i64 (0)), (.int .i64 (1)), (.int .i64 (100)), (.int .i64 (110))], [(.int .i64 (1)), (.int .i64 (1)), (.int .i64 (105)), (.int .i64 (120))], [(.int .i64 (0)), (.int .i64 (0)), (.int .i64 (115)), (.int .i64 (130))], [(.int .i64 (1)), (.int .i64 (2)), (.int .i64 (125)), (.int .i64 (125))]])]), (.sl [[(.int .i64 (0)), (.int .i64 (1)), (.int .i64 (118)), (.int .i64 (119))]])], (.tup [(.sl [[(.int .i64 (100)), (.int .i64 (110))], [(.int .i64 (105)), (.int .i64 (120))], [(.int .i64 (119)), (.int .i64 (125))], [(.int .i64 (125)), (.int .i64 (125))]]), (.int .i64 (0))])),
  (16, [(.agg [(.sl [[(.str ⟨#[108, 97, 109, 112]⟩), (.int .i64 (2)), (.int .i64 (0))], [(.str ⟨#[119, 97, 116, 99, 104]⟩), (.int .i64 (3)), (.int .i64 (0))]]), (.sl [[(.int .i64 (0)), (.int .i64 (1)), (.int .i64 (100)), (.int .i64 (110))], [(.int .i64 (1)), (.int .i64 (1)), (.int .i64 (105)), (.int .i64 (120))], [(.int .i64 (0)), (.int .i64 (0)), (.int .i64 (115)), (.int .i64 (130))], [(.int .i64 (1)), (.int .i64 (2)), (.int .i64 (125)), (.int .i64 (125))]])]), (.sl []), (.int .i64 (0)), (.int .i64 (118))], (.tup [(.sl [[(.int .i64 (0))], [(.int .i64 (1))]]), (.int .i64 (0))])),
  (20, [(.agg [(.sl [[(.str ⟨#[108, 97, 109, 112]⟩), (.int .i64 (2)), (.int .i64 (0))], [(.str ⟨#[119, 97, 116, 99, 104]⟩), (.int .i64 (3)), (.int .i64 (0))]]), (.sl [[(.int .i64 (0)), (.int .i64 (1)), (.int .i64 (100)), (.int .i64 (110))], [(.int .i64 (1)), (.int .i64 (1)), (.int .i64 (105)), (.int .i64 (120))], [(.int .i64 (0)), (.int .i64 (0)), (.int .i64 (115)), (.int .i64 (130))], [(.int .i64 (1)), (.int .i64 (2)), (.int .i64 (125)), (.int .i64 (125))]])]), (.sl []), (.agg [(.int .i64 (0)), (.int .i64 (1)), (.int .i64 (112)), (.int .i64 (112))])], (.tup [(.int .i64 (2)), (.int .i64 (0))])),
  (22, [(.agg [(.sl [[(.str ⟨#[108, 97, 109, 112]⟩), (.int .i64 (2)), (.int .i64 (0))], [(.str ⟨#[119, 97, 116, 99, 104]⟩), (.int .i64 (3)), (.int .i64 (0))]]), (.sl [[(.int .i64 (0)), (.int .i64 (1)), (.int .i64 (100)), (.int .i64 (110))], [(.int .i64 (1)), (.int .i64 (1)), (.int .i64 (105)), (.int .i64 (120))], [(.int .i64 (0)), (.int .i64 (0)), (.int .i64 (115)), (.int .i64 (130))], [(.int .i64 (1)), (.int .i64 (2)), (.int .i64 (125)), (.int .i64 (125))]])]), (.sl []), (.agg [(.int .i64 (0)), (.int .i64 (1)), (.int .i64 (112)), (.int .i64 (112))])], (.tup [(.sl [[(.int .i64 (0))], [(.int .i64 (2))]]), (.int .i64 (0))])),
  (24, [(.agg [(.sl [[(.str ⟨#[108, 97, 109, 112]⟩), (.int .i64 (2)), (.int .i64 (0))], [(.str ⟨#[119, 97, 116, 99, 104]⟩), (.int .i64 (3)), (.int .i64 (0))]]), (.sl [[(.int .i64 (0)), (.int .i64 (1)), (.int .i64 (100)), (.int .i64 (110))], [(.int .i64 (1)), (.int .i64 (1)), (.int .i64 (105)), (.int .i64 (120))], [(.int .i64 (0)), (.int .i64 (0)), (.int .i64 (115)), (.int .i64 (130))], [(.int .i64 (1)), (.int .i64 (2)), (.int .i64 (125)), (.int .i64 (125))]])]), (.sl [[(.int .i64 (0)), (.int .i64 (1)), (.int .i64 (118)), (.int .i64 (119))], [(.int .i64 (1)), (.int .i64 (2)), (.int .i64 (0)), (.int .i64 (124))]])], (.tup [(.sl [[(.int .i64 (1))]]), (.int .i64 (0))])),
  (26, [(.agg [(.sl [[(.str ⟨#[108, 97, 109, 112]⟩), (.int .i64 (2)), (.int .i64 (0))]]), (.sl [])])], (.tup [(.str ⟨#[100, 101, 118, 105, 99, 101, 32, 108, 97, 109, 112, 32, 50, 32, 48, 32, 52, 56, 48, 52, 53, 10]⟩), (.int .i64 (0))])),
  (28, [(.str ⟨#[100, 101, 118, 105, 99, 101, 32, 108, 97, 109, 112, 32, 50, 32, 48, 32, 52, 56, 48, 52, 53, 10]⟩)], (.tup [(.agg [(.sl [[(.str ⟨#[108, 97, 109, 112]⟩), (.int .i64 (2)), (.int .i64 (0))]]), (.sl [])]), (.int .i64 (0))])),
  (31, [(.str ⟨#[100, 101, 118, 105, 99, 101, 32, 108, 97, 109, 113, 32, 50, 32, 48, 32, 52, 56, 48, 52, 53, 10]⟩)], (.tup [(.int .i64 (1)), (.int .i64 (0))])),
  (34, [(.agg [(.sl [[(.str ⟨#[108, 97, 109, 112]⟩), (.int .i64 (2)), (.int .i64 (0))], [(.str ⟨#[119, 97, 116, 99, 104]⟩), (.int .i64 (3)), (.int .i64 (0))]]), (.sl [[(.int .i64 (0)), (.int .i64 (1)), (.int .i64 (100)), (.int .i64 (110))], [(.int .i64 (1)), (.int .i64 (1)), (.int .i64 (105)), (.int .i64 (120))], [(.int .i64 (0)), (.int .i64 (0)), (.int .i64 (115)), (.int .i64 (130))], [(.int .i64 (1)), (.int .i64 (2)), (.int .i64 (125)), (.int .i64 (125))]])]), (.sl [[(.int .i64 (1)), (.int .i64 (2)), (.int .i64 (124)), (.int .i64 (124))]])], (.tup [(.sl []), (.int .i64 (9))]))]
theorem kn90_ok : ∀ e ∈ kn90_tb, Known E e := fun e he => by
  simp only [kn90_tb, List.mem_cons, List.not_mem_nil, or_false] at he
  rcases he with rfl | rfl | rfl | rfl | rfl | rfl | rfl | rfl | rfl
  · exact kn52
  · exact kn53
  · exact kn59
  · exact kn76
  · exact kn81
  · exact kn84
  · exact kn85
  · exact kn86
  · exact kn89
theorem kn90 : Known E (19, [], (.bool true)) := topF_known (n := 60) kn90_ok (by kernel_rfl)
end Nore
set_option maxRecDepth 100000
namespace Nore
open Go Go.Ab Go.Proofs Go.Proofs.YtlngokonhalcdaaGreatDoor
def kn91_tb : List (Nat × List DV × DV) := [(34, [(.agg [(.sl [[(.str ⟨#[108, 97, 109, 112]⟩), (.int .i64 (2)), (.int .i64 (0))], [(.str ⟨#[119, 97, 116, 99, 104]⟩), (.int .i64 (3)), (.int .i64 (0))]]), (.sl [[(.int .i64 (0)), (.int .i64 (1)), (.int .i64 (100)), (.int .i64 (110))], [(.int .i64 (1)), (.int .i64 (1)), (.int .i64 (105)), (.int .i64 (120))], [(.int .i64 (0)), (.int .i64 (0)), (.int .i64 (115)), (.int .i64 (130))], [(.int .i64 (1)), (.int .i64 (2)), (.int .i64 (125)), (.int .i64 (125))]])]), (.sl [])], (.tup [(.sl [[(.int .i64 (100)), (.int .i64 (110))], [(.int .i64 (105)), (.int .i64 (120))], [(.int .i64 (115)), (.int .i64 (125))], [(.int .i64 (125)), (.int .i64 (125))]]), (.int .i64 (0))])),
  (16, [(.agg [(.sl [[(.str ⟨#[108, 97, 109, 112]⟩), (.int .i64 (2)), (.int .i64 (0))], [(.str ⟨#[119, 97, 116, 99, 104]⟩), (.int .i64 (3)), (.int .i64 (0))]]), (.sl [[(.int .i64 (0)), (.int .i64 (1)), (.int .i64 (100)), (.int .i64 (110))], [(.int .i64 (1)), (.int .i64 (1)), (.int .i64 (105)), (.int .i64 (120))], [(.int .i64 (0)), (.int .i64 (0)), (.int .i64 (115)), (.int .i64 (130))], [(.int .i64 (1)), (.int .i64 (2)), (.int .i64 (125)), (.int .i64 (125))]])]), (.sl [[(.int .i64 (0)), (.int .i64 (1)), (.int .i64 (118)), (.int .i64 (119))]]), (.int .i64 (0)), (.int .i64 (118))], (.tup [(.sl [[(.int .i64 (1))]]), (.int .i64 (0))])),
  (16, [(.agg [(.sl [[(.str ⟨#[108, 97, 109, 112]⟩), (.int .i64 (2)), (.int .i64 (0))], [(.str ⟨#[119, 97, 116, 99, 104]⟩), (.int .i64 (3)), (.int .i64 (0))]]), (.sl [[(.int .i64 (0)), (.int .i64 (1)), (.int .i64 (100)), (.int .i64 (110))], [(.int .i64 (1)), (.int .i64 (1)), (.int .i64 (105)), (.int .i64 (120))], [(.int .i64 (0)), (.int .i64 (0)), (.int .i64 (115)), (.int .i64 (130))], [(.int .i64 (1)), (.int .i64 (2)), (.int .i64 (125)), (.int .i64 (125))]])]), (.sl []), (.int .i64 (0)), (.int .i64 (126))], (.tup [(.sl [[(.int .i64 (0))]]), (.int .i64 (0))])),
  (20, [(.agg [(.sl [[(.str ⟨#[108, 97, 109, 112]⟩), (.int .i64 (2)), (.int .i64 (0))], [(.str ⟨#[119, 97, 116, 99, 104]⟩), (.int .i64 (3)), (.int .i64 (0))]]), (.sl [[(.int .i64 (0)), (.int .i64 (1)), (.int .i64 (100)), (.int .i64 (110))], [(.int .i64 (1)), (.int .i64 (1)), (.int .i64 (105)), (.int .i64 (120))], [(.int .i64 (0)), (.int .i64 (0)), (.int .i64 (115)), (.int .i64 (130))], [(.int .i64 (1)), (.int .i64 (2)), (.int .i64 (125)), (.int .i64 (125))]])]), (.sl []), (.agg [(.int .i64 (0)), (.int .i64 (1)), (.int .i64 (118)), (.int .i64 (118))])], (.tup [(.int .i64 (1)), (.int .i64 (0))])),
  (20, [(.agg [(.sl [[(.str ⟨#[108, 97, 109, 112]⟩), (.int .i64 (2)), (.int .i64 (0))], [(.str ⟨#[119, 97, 116, 99, 104]⟩), (.int .i64 (3)), (.int .i64 (0))]]), (.sl [[(.int .i64 (0)), (.int .i64 (1)), (.int .i64 (100)), (.int .i64 (110))], [(.int .i64 (1)), (.int .i64 (1)), (.int .i64 (105)), (.int .i64 (120))], [(.int .i64 (0)), (.int .i64 (0)), (.int .i64 (115)), (.int .i64 (130))], [(.int .i64 (1)), (.int .i64 (2)), (.int .i64 (125)), (.int .i64 (125))]])]), (.sl []), (.agg [(.int .i64 (0)), (.int .i64 (1)), (.int .i64 (105)), (.int .i64 (105))])], (.tup [(.int .i64 (1)), (.int .i64 (0))])),
  (20, [(.agg [(.sl [[(.str ⟨#[108, 97, 109, 112]⟩), (.int .i64 (2)), (.int .i64 (0))], [(.str ⟨#[119, 97, 116, 99, 104]⟩), (.int .i64 (3)), (.int .i64 (0))]]), (.sl [[(.int .i64 (0)), (.int .i64 (1)), (.int .i64 (100)), (.int .i64 (110))], [(.int .i64 (1)), (.int .i64 (1)), (.int .i64 (105)), (.int .i64 (120))], [(.int .i64 (0)), (.int .i64 (0)), (.int .i64 (115)), (.int .i64 (130))], [(.int .i64 (1)), (.int .i64 (2)), (.int .i64 (125)), (.int .i64 (125))]])]), (.sl []), (.agg [(.int .i64 (0)), (.int .i64 (1)), (.int .i64 (125)), (.int .i64 (125))])], (.tup [(.int .i64 (0)), (.int .i64 (0))])),
  (22, [(.agg [(.sl [[(.str ⟨#[108, 97, 109, 112]⟩), (.int .i64 (2)), (.int .i64 (0))], [(.str ⟨#[119, 97, 116, 99, 104]⟩), (.int .i64 (3)), (.int .i64 (0))]]), (.sl [[(.int .i64 (0)), (.int .i64 (1)), (.int .i64 (100)), (.int .i64 (110))], [(.int .i64 (1)), (.int .i64 (1)), (.int .i64 (105)), (.int .i64 (120))], [(.int .i64 (0)), (.int .i64 (0)), (.int .i64 (115)), (.int .i64 (130))], [(.int .i64 (1)), (.int .i64 (2)), (.int .i64 (125)), (.int .i64 (125))]])]), (.sl []), (.agg [(.int .i64 (0)), (.int .i64 (1)), (.int .i64 (125)), (.int .i64 (125))])], (.tup [(.sl [[(.int .i64 (3))]]), (.int .i64 (0))])),
  (31, [(.str ⟨#[100, 101, 118, 105, 99, 101, 32, 108, 97, 109, 112, 32, 50, 32, 48, 32, 52, 56, 48, 52, 53, 10]⟩)], (.tup [(.int .i64 (0)), (.int .i64 (4))])),
  (19, [], (.bool true))]
theorem kn91_ok : ∀ e ∈ kn91_tb, Known E e := fun e he => by
  simp only [kn91_tb, List.mem_cons, List.not_mem_nil, or_false] at he
  rcases he with rfl | rfl | rfl | rfl | rfl | rfl | rfl | rfl | rfl
  · exact kn3
  · exact kn10
  · exact kn15
  · exact kn21
  · exact kn27
  · exact kn33
  · exact kn50
  · exact kn51
  · exact kn90
theorem kn91 : Known E (6, [], (.bool true)) := topF_known (n := 60) kn91_ok (by kernel_rfl)
end Nore
namespace Nore
open Go Go.Ab Go.Proofs Go.Proofs.YtlngokonhalcdaaGreatDoor
theorem law12_CourtKnown_known : Known E (6, [], .bool true) := kn91
theorem law12_Awake_known : Known E (19, [], .bool true) := kn90
end Nore
