/- Calls that the examples make, run. -/
import Derived.Test.YtlngokonhalcdaaGreatDoorK4
set_option linter.unusedSectionVars false
set_option linter.unusedVariables false
set_option linter.unusedSimpArgs false
set_option maxRecDepth 100000
namespace Nore
open Go Go.Ab Go.Proofs Go.Proofs.YtlngokonhalcdaaGreatDoor
theorem kn46 : Known E (60, [(.agg [(.sl [[(.str ⟨#[108, 97, 109, 112]⟩), (.int .i64 (2)), (.int .i64 (0))], [(.str ⟨#[119, 97, 116, 99, 104]⟩), (.int .i64 (3)), (.int .i64 (0))]]), (.sl [[(.int .i64 (0)), (.int .i64 (1)), (.int .i64 (100)), (.int .i64 (110))], [(.int .i64 (1)), (.int .i64 (1)), (.int .i64 (105)), (.int .i64 (120))], [(.int .i64 (0)), (.int .i64 (0)), (.int .i64 (115)), (.int .i64 (130))], [(.int .i64 (1)), (.int .i64 (2)), (.int .i64 (0)), (.int .i64 (9999))]]), (.sl [[(.int .i64 (0)), (.int .i64 (0)), (.int .i64 (125)), (.int .i64 (125))]])])], (.bool true)) := ⟨60, by kernel_rfl⟩
theorem kn47 : Known E (60, [(.agg [(.sl [[(.str ⟨#[108, 97, 109, 112]⟩), (.int .i64 (2)), (.int .i64 (0))], [(.str ⟨#[119, 97, 116, 99, 104]⟩), (.int .i64 (3)), (.int .i64 (0))]]), (.sl [[(.int .i64 (0)), (.int .i64 (1)), (.int .i64 (100)), (.int .i64 (110))], [(.int .i64 (1)), (.int .i64 (1)), (.int .i64 (105)), (.int .i64 (120))], [(.int .i64 (0)), (.int .i64 (0)), (.int .i64 (115)), (.int .i64 (130))], [(.int .i64 (1)), (.int .i64 (2)), (.int .i64 (0)), (.int .i64 (9999))]]), (.sl [[(.int .i64 (0)), (.int .i64 (1)), (.int .i64 (125)), (.int .i64 (125))]])])], (.bool true)) := ⟨60, by kernel_rfl⟩
end Nore
set_option maxRecDepth 100000
namespace Nore
open Go Go.Ab Go.Proofs Go.Proofs.YtlngokonhalcdaaGreatDoor
def kn48_tb : List (Nat × List DV × DV) := [(60, [(.agg [(.sl [[(.str ⟨#[108, 97, 109, 112]⟩), (.int .i64 (2)), (.int .i64 (0))], [(.str ⟨#[119, 97, 116, 99, 104]⟩), (.int .i64 (3)), (.int .i64 (0))]]), (.sl [[(.int .i64 (0)), (.int .i64 (1)), (.int .i64 (100)), (.int .i64 (110))], [(.int .i64 (1)), (.int .i64 (1)), (.int .i64 (105)), (.int .i64 (120))], [(.int .i64 (0)), (.int .i64 (0)), (.int .i64 (115)), (.int .i64 (130))], [(.int .i64 (1)), (.int .i64 (2)), (.int .i64 (0)), (.int .i64 (9999))]]), (.sl [[(.int .i64 (0)), (.int .i64 (0)), (.int .i64 (125)), (.int .i64 (125))]])])], (.bool true)),
  (60, [(.agg [(.sl [[(.str ⟨#[108, 97, 109, 112]⟩), (.int .i64 (2)), (.int .i64 (0))], [(.str ⟨#[119, 97, 116, 99, 104]⟩), (.int .i64 (3)), (.int .i64 (0))]]), (.sl [[(.int .i64 (0)), (.int .i64 (1)), (.int .i64 (100)), (.int .i64 (110))], [(.int .i64 (1)), (.int .i64 (1)), (.int .i64 (105)), (.int .i64 (120))], [(.int .i64 (0)), (.int .i64 (0)), (.int .i64 (115)), (.int .i64 (130))], [(.int .i64 (1)), (.int .i64 (2)), (.int .i64 (0)), (.int .i64 (9999))]]), (.sl [[(.int .i64 (0)), (.int .i64 (1)), (.int .i64 (125)), (.int .i64 (125))]])])], (.bool true))]
theorem kn48_ok : ∀ e ∈ kn48_tb, Known E e := fun e he => by
  simp only [kn48_tb, List.mem_cons, List.not_mem_nil, or_false] at he
  rcases he with rfl | rfl
  · exact kn46
  · exact kn47
theorem kn48 : Known E (61, [(.agg [(.sl [[(.str ⟨#[108, 97, 109, 112]⟩), (.int .i64 (2)), (.int .i64 (0))], [(.str ⟨#[119, 97, 116, 99, 104]⟩), (.int .i64 (3)), (.int .i64 (0))]]), (.sl [[(.int .i64 (0)), (.int .i64 (1)), (.int .i64 (100)), (.int .i64 (110))], [(.int .i64 (1)), (.int .i64 (1)), (.int .i64 (105)), (.int .i64 (120))], [(.int .i64 (0)), (.int .i64 (0)), (.int .i64 (115)), (.int .i64 (130))], [(.int .i64 (1)), (.int .i64 (2)), (.int .i64 (0)), (.int .i64 (9999))]]), (.sl [])]), (.int .i64 (0)), (.int .i64 (125))], (.sl [[(.int .i64 (0))], [(.int .i64 (1))]])) := topF_known (n := 60) kn48_ok (by kernel_rfl)
end Nore
set_option maxRecDepth 100000
namespace Nore
open Go Go.Ab Go.Proofs Go.Proofs.YtlngokonhalcdaaGreatDoor
def kn49_tb : List (Nat × List DV × DV) := [(61, [(.agg [(.sl [[(.str ⟨#[108, 97, 109, 112]⟩), (.int .i64 (2)), (.int .i64 (0))], [(.str ⟨#[119, 97, 116, 99, 104]⟩), (.int .i64 (3)), (.int .i64 (0))]]), (.sl [[(.int .i64 (0)), (.int .i64 (1)), (.int .i64 (100)), (.int .i64 (110))], [(.int .i64 (1)), (.int .i64 (1)), (.int .i64 (105)), (.int .i64 (120))], [(.int .i64 (0)), (.int .i64 (0)), (.int .i64 (115)), (.int .i64 (130))], [(.int .i64 (1)), (.int .i64 (2)), (.int .i64 (0)), (.int .i64 (9999))]]), (.sl [])]), (.int .i64 (0)), (.int .i64 (125))], (.sl [[(.int .i64 (0))], [(.int .i64 (1))]]))]
theorem kn49_ok : ∀ e ∈ kn49_tb, Known E e := fun e he => by
  simp only [kn49_tb, List.mem_cons, List.not_mem_nil, or_false] at he
  rcases he with rfl
  · exact kn48
theorem kn49 : Known E (66, [(.agg [(.sl [[(.str ⟨#[108, 97, 109, 112]⟩), (.int .i64 (2)), (.int .i64 (0))], [(.str ⟨#[119, 97, 116, 99, 104]⟩), (.int .i64 (3)), (.int .i64 (0))]]), (.sl [[(.int .i64 (0)), (.int .i64 (1)), (.int .i64 (100)), (.int .i64 (110))], [(.int .i64 (1)), (.int .i64 (1)), (.int .i64 (105)), (.int .i64 (120))], [(.int .i64 (0)), (.int .i64 (0)), (.int .i64 (115)), (.int .i64 (130))], [(.int .i64 (1)), (.int .i64 (2)), (.int .i64 (0)), (.int .i64 (9999))]]), (.sl [])]), (.agg [(.int .i64 (0)), (.int .i64 (1)), (.int .i64 (125)), (.int .i64 (125))])], (.int .i64 (1))) := topF_known (n := 60) kn49_ok (by kernel_rfl)
end Nore
set_option maxRecDepth 100000
namespace Nore
open Go Go.Ab Go.Proofs Go.Proofs.YtlngokonhalcdaaGreatDoor
def kn50_tb : List (Nat × List DV × DV) := [(65, [(.agg [(.sl [[(.str ⟨#[108, 97, 109, 112]⟩), (.int .i64 (2)), (.int .i64 (0))], [(.str ⟨#[119, 97, 116, 99, 104]⟩), (.int .i64 (3)), (.int .i64 (0))]]), (.sl [[(.int .i64 (0)), (.int .i64 (1)), (.int .i64 (100)), (.int .i64 (110))], [(.int .i64 (1)), (.int .i64 (1)), (.int .i64 (105)), (.int .i64 (120))], [(.int .i64 (0)), (.int .i64 (0)), (.int .i64 (115)), (.int .i64 (130))], [(.int .i64 (1)), (.int .i64 (2)), (.int .i64 (125)), (.int .i64 (125))]])]), (.sl []), (.agg [(.int .i64 (0)), (.int .i64 (1)), (.int .i64 (125)), (.int .i64 (125))])], (.tup [(.agg [(.sl [[(.str ⟨#[108, 97, 109, 112]⟩), (.int .i64 (2)), (.int .i64 (0))], [(.str ⟨#[119, 97, 116, 99, 104]⟩), (.int .i64 (3)), (.int .i64 (0))]]), (.sl [[(.int .i64 (0)), (.int .i64 (1)), (.int .i64 (100)), (.int .i64 (110))], [(.int .i64 (1)), (.int .i64 (1)), (.int .i64 (105)), (.int .i64 (120))], [(.int .i64 (0)), (.int .i64 (0)), (.int .i64 (115)), (.int .i64 (130))], [(.int .i64 (1)), (.int .i64 (2)), (.int .i64 (125)), (.int .i64 (125))]]), (.sl [])]), (.int .i64 (0))])),
  (66, [(.agg [(.sl [[(.str ⟨#[108, 97, 109, 112]⟩), (.int .i64 (2)), (.int .i64 (0))], [(.str ⟨#[119, 97, 116, 99, 104]⟩), (.int .i64 (3)), (.int .i64 (0))]]), (.sl [[(.int .i64 (0)), (.int .i64 (1)), (.int .i64 (100)), (.int .i64 (110))], [(.int .i64 (1)), (.int .i64 (1)), (.int .i64 (105)), (.int .i64 (120))], [(.int .i64 (0)), (.int .i64 (0)), (.int .i64 (115)), (.int .i64 (130))], [(.int .i64 (1)), (.int .i64 (2)), (.int .i64 (125)), (.int .i64 (125))]]), (.sl [])]), (.agg [(.int .i64 (0)), (.int .i64 (1)), (.int .i64 (125)), (.int .i64 (125))])], (.int .i64 (0))),
  (66, [(.agg [(.sl [[(.str ⟨#[108, 97, 109, 112]⟩), (.int .i64 (2)), (.int .i64 (0))], [(.str ⟨#[119, 97, 116, 99, 104]⟩), (.int .i64 (3)), (.int .i64 (0))]]), (.sl [[(.int .i64 (0)), (.int .i64 (1)), (.int .i64 (0)), (.int .i64 (9999))], [(.int .i64 (1)), (.int .i64 (1)), (.int .i64 (105)), (.int .i64 (120))], [(.int .i64 (0)), (.int .i64 (0)), (.int .i64 (115)), (.int .i64 (130))], [(.int .i64 (1)), (.int .i64 (2)), (.int .i64 (125)), (.int .i64 (125))]]), (.sl [])]), (.agg [(.int .i64 (0)), (.int .i64 (1)), (.int .i64 (125)), (.int .i64 (125))])], (.int .i64 (0))),
  (66, [(.agg [(.sl [[(.str ⟨#[108, 97, 109, 112]⟩), (.int .i64 (2)), (.int .i64 (0))], [(.str ⟨#[119, 97, 116, 99, 104]⟩), (.int .i64 (3)), (.int .i64 (0))]]), (.sl [[(.int .i64 (0)), (.int .i64 (1)), (.int .i64 (100)), (.int .i64 (110))], [(.int .i64 (1)), (.int .i64 (1)), (.int .i64 (0)), (.int .i64 (9999))], [(.int .i64 (0)), (.int .i64 (0)), (.int .i64 (115)), (.int .i64 (130))], [(.int .i64 (1)), (.int .i64 (2)), (.int .i64 (125)), (.int .i64 (125))]]), (.sl [])]), (.agg [(.int .i64 (0)), (.int .i64 (1)), (.int .i64 (125)), (.int .i64 (125))])], (.int .i64 (0))),
  (66, [(.agg [(.sl [[(.str ⟨#[108, 97, 109, 112]⟩), (.int .i64 (2)), (.int .i64 (0))], [(.str ⟨#[119, 97, 116, 99, 104]⟩), (.int .i64 (3)), (.int .i64 (0))]]), (.sl [[(.int .i64 (0)), (.int .i64 (1)), (.int .i64 (100)), (.int .i64 (110))], [(.int .i64 (1)), (.int .i64 (1)), (.int .i64 (105)), (.int .i64 (120))], [(.int .i64 (0)), (.int .i64 (0)), (.int .i64 (0)), (.int .i64 (9999))], [(.int .i64 (1)), (.int .i64 (2)), (.int .i64 (125)), (.int .i64 (125))]]), (.sl [])]), (.agg [(.int .i64 (0)), (.int .i64 (1)), (.int .i64 (125)), (.int .i64 (125))])], (.int .i64 (0))),
  (66, [(.agg [(.sl [[(.str ⟨#[108, 97, 109, 112]⟩), (.int .i64 (2)), (.int .i64 (0))], [(.str ⟨#[119, 97, 116, 99, 104]⟩), (.int .i64 (3)), (.int .i64 (0))]]), (.sl [[(.int .i64 (0)), (.int .i64 (1)), (.int .i64 (100)), (.int .i64 (110))], [(.int .i64 (1)), (.int .i64 (1)), (.int .i64 (105)), (.int .i64 (120))], [(.int .i64 (0)), (.int .i64 (0)), (.int .i64 (115)), (.int .i64 (130))], [(.int .i64 (1)), (.int .i64 (2)), (.int .i64 (0)), (.int .i64 (9999))]]), (.sl [])]), (.agg [(.int .i64 (0)), (.int .i64 (1)), (.int .i64 (125)), (.int .i64 (125))])], (.int .i64 (1)))]
theorem kn50_ok : ∀ e ∈ kn50_tb, Known E e := fun e he => by
  simp only [kn50_tb, List.mem_cons, List.not_mem_nil, or_false] at he
  rcases he with rfl | rfl | rfl | rfl | rfl | rfl
  · exact kn28
  · exact kn32
  · exact kn37
  · exact kn41
  · exact kn45
  · exact kn49
theorem kn50 : Known E (22, [(.agg [(.sl [[(.str ⟨#[108, 97, 109, 112]⟩), (.int .i64 (2)), (.int .i64 (0))], [(.str ⟨#[119, 97, 116, 99, 104]⟩), (.int .i64 (3)), (.int .i64 (0))]]), (.sl [[(.int .i64 (0)), (.int .i64 (1)), (.int .i64 (100)), (.int .i64 (110))], [(.int .i64 (1)), (.int .i64 (1)), (.int .i64 (105)), (.int .i64 (120))], [(.int .i64 (0)), (.int .i64 (0)), (.int .i64 (115)), (.int .i64 (130))], [(.int .i64 (1)), (.int .i64 (2)), (.int .i64 (125)), (.int .i64 (125))]])]), (.sl []), (.agg [(.int .i64 (0)), (.int .i64 (1)), (.int .i64 (125)), (.int .i64 (125))])], (.tup [(.sl [[(.int .i64 (3))]]), (.int .i64 (0))])) := topF_known (n := 60) kn50_ok (by kernel_rfl)
end Nore
set_option maxRecDepth 100000
namespace Nore
open Go Go.Ab Go.Proofs Go.Proofs.YtlngokonhalcdaaGreatDoor
theorem kn51 : Known E (31, [(.str ⟨#[100, 101, 118, 105, 99, 101, 32, 108, 97, 109, 112, 32, 50, 32, 48, 32, 52, 56, 48, 52, 53, 10]⟩)], (.tup [(.int .i64 (0)), (.int .i64 (4))])) := ⟨60, by kernel_rfl⟩
end Nore
set_option maxRecDepth 100000
namespace Nore
open Go Go.Ab Go.Proofs Go.Proofs.YtlngokonhalcdaaGreatDoor
def kn52_tb : List (Nat × List DV × DV) := [(58, [(.agg [(.sl [[(.str ⟨#[108, 97, 109, 112]⟩), (.int .i64 (2)), (.int .i64 (0))], [(.str ⟨#[119, 97, 116, 99, 104]⟩), (.int .i64 (3)), (.int .i64 (0))]]), (.sl [[(.int .i64 (0)), (.int .i64 (1)), (.int .i64 (100)), (.int .i64 (110))], [(.int .i64 (1)), (.int .i64 (1)), (.int .i64 (105)), (.int .i64 (120))], [(.int .i64 (0)), (.int .i64 (0)), (.int .i64 (115)), (.int .i64 (130))], [(.int .i64 (1)), (.int .i64 (2)), (.int .i64 (125)), (.int .i64 (125))]])]), (.sl [[(.int .i64 (0)), (.int .i64 (1)), (.int .i64 (118)), (.int .i64 (119))]])], (.tup [(.agg [(.sl [[(.str ⟨#[108, 97, 109, 112]⟩), (.int .i64 (2)), (.int .i64 (0))], [(.str ⟨#[119, 97, 116, 99, 104]⟩), (.int .i64 (3)), (.int .i64 (0))]]), (.sl [[(.int .i64 (0)), (.int .i64 (1)), (.int .i64 (100)), (.int .i64 (110))], [(.int .i64 (1)), (.int .i64 (1)), (.int .i64 (105)), (.int .i64 (120))], [(.int .i64 (0)), (.int .i64 (0)), (.int .i64 (115)), (.int .i64 (130))], [(.int .i64 (1)), (.int .i64 (2)), (.int .i64 (125)), (.int .i64 (125))]]), (.sl [[(.int .i64 (0)), (.int .i64 (1)), (.int .i64 (118)), (.int .i64 (119))]])]), (.int .i64 (0))]))]
theorem kn52_ok : ∀ e ∈ kn52_tb, Known E e := fun e he => by
  simp only [kn52_tb, List.mem_cons, List.not_mem_nil, or_false] at he
  rcases he with rfl
  · exact kn5
theorem kn52 : Known E (34, [(.agg [(.sl [[(.str ⟨#[108, 97, 109, 112]⟩), (.int .i64 (2)), (.int .i64 (0))], [(.str ⟨#[119, 97, 116, 99, 104]⟩), (.int .i64 (3)), (.int .i64 (0))]]), (.sl [[(.int .i64 (0)), (.int .i64 (1)), (.int .i64 (100)), (.int .i64 (110))], [(.int .i64 (1)), (.int .i64 (1)), (.int .i64 (105)), (.int .i64 (120))], [(.int .i64 (0)), (.int .i64 (0)), (.int .i64 (115)), (.int .i64 (130))], [(.int .i64 (1)), (.int .i64 (2)), (.int .i64 (125)), (.int .i64 (125))]])]), (.sl [[(.int .i64 (0)), (.int .i64 (1)), (.int .i64 (118)), (.int .i64 (119))]])], (.tup [(.sl [[(.int .i64 (100)), (.int .i64 (110))], [(.int .i64 (105)), (.int .i64 (120))], [(.int .i64 (119)), (.int .i64 (125))], [(.int .i64 (125)), (.int .i64 (125))]]), (.int .i64 (0))])) := topF_known (n := 60) kn52_ok (by kernel_rfl)
end Nore
set_option maxRecDepth 100000
namespace Nore
open Go Go.Ab Go.Proofs Go.Proofs.YtlngokonhalcdaaGreatDoor
def kn53_tb : List (Nat × List DV × DV) := [(58, [(.agg [(.sl [[(.str ⟨#[108, 97, 109, 112]⟩), (.int .i64 (2)), (.int .i64 (0))], [(.str ⟨#[119, 97, 116, 99, 104]⟩), (.int .i64 (3)), (.int .i64 (0))]]), (.sl [[(.int .i64 (0)), (.int .i64 (1)), (.int .i64 (100)), (.int .i64 (110))], [(.int .i64 (1)), (.int .i64 (1)), (.int .i64 (105)), (.int .i64 (120))], [(.int .i64 (0)), (.int .i64 (0)), (.int .i64 (115)), (.int .i64 (130))], [(.int .i64 (1)), (.int .i64 (2)), (.int .i64 (125)), (.int .i64 (125))]])]), (.sl [])], (.tup [(.agg [(.sl [[(.str ⟨#[108, 97, 109, 112]⟩), (.int .i64 (2)), (.int .i64 (0))], [(.str ⟨#[119, 97, 116, 99, 104]⟩), (.int .i64 (3)), (.int .i64 (0))]]), (.sl [[(.int .i64 (0)), (.int .i64 (1)), (.int .i64 (100)), (.int .i64 (110))], [(.int .i64 (1)), (.int .i64 (1)), (.int .i64 (105)), (.int .i64 (120))], [(.int .i64 (0)), (.int .i64 (0)), (.int .i64 (115)), (.int .i64 (130))], [(.int .i64 (1)), (.int .i64 (2)), (.int .i64 (125)), (.int .i64 (125))]]), (.sl [])]), (.int .i64 (0))])),
  (60, [(.agg [(.sl [[(.str ⟨#[108, 97, 109, 112]⟩), (.int .i64 (2)), (.int .i64 (0))], [(.str ⟨#[119, 97, 116, 99, 104]⟩), (.int .i64 (3)), (.int .i64 (0))]]), (.sl [[(.int .i64 (0)), (.int .i64 (1)), (.int .i64 (100)), (.int .i64 (110))], [(.int .i64 (1)), (.int .i64 (1)), (.int .i64 (105)), (.int .i64 (120))], [(.int .i64 (0)), (.int .i64 (0)), (.int .i64 (115)), (.int .i64 (130))], [(.int .i64 (1)), (.int .i64 (2)), (.int .i64 (125)), (.int .i64 (125))]]), (.sl [])])], (.bool true)),
  (61, [(.agg [(.sl [[(.str ⟨#[108, 97, 109, 112]⟩), (.int .i64 (2)), (.int .i64 (0))], [(.str ⟨#[119, 97, 116, 99, 104]⟩), (.int .i64 (3)), (.int .i64 (0))]]), (.sl [[(.int .i64 (0)), (.int .i64 (1)), (.int .i64 (100)), (.int .i64 (110))], [(.int .i64 (1)), (.int .i64 (1)), (.int .i64 (105)), (.int .i64 (120))], [(.int .i64 (0)), (.int .i64 (0)), (.int .i64 (115)), (.int .i64 (130))], [(.int .i64 (1)), (.int .i64 (2)), (.int .i64 (125)), (.int .i64 (125))]]), (.sl [])]), (.int .i64 (0)), (.int .i64 (118))], (.sl [[(.int .i64 (0))], [(.int .i64 (1))]]))]
theorem kn53_ok : ∀ e ∈ kn53_tb, Known E e := fun e he => by
  simp only [kn53_tb, List.mem_cons, List.not_mem_nil, or_false] at he
  rcases he with rfl | rfl | rfl
  · exact kn2
  · exact kn11
  · exact kn19
theorem kn53 : Known E (16, [(.agg [(.sl [[(.str ⟨#[108, 97, 109, 112]⟩), (.int .i64 (2)), (.int .i64 (0))], [(.str ⟨#[119, 97, 116, 99, 104]⟩), (.int .i64 (3)), (.int .i64 (0))]]), (.sl [[(.int .i64 (0)), (.int .i64 (1)), (.int .i64 (100)), (.int .i64 (110))], [(.int .i64 (1)), (.int .i64 (1)), (.int .i64 (105)), (.int .i64 (120))], [(.int .i64 (0)), (.int .i64 (0)), (.int .i64 (115)), (.int .i64 (130))], [(.int .i64 (1)), (.int .i64 (2)), (.int .i64 (125)), (.int .i64 (125))]])]), (.sl []), (.int .i64 (0)), (.int .i64 (118))], (.tup [(.sl [[(.int .i64 (0))], [(.int .i64 (1))]]), (.int .i64 (0))])) := topF_known (n := 60) kn53_ok (by kernel_rfl)
end Nore
set_option maxRecDepth 100000
namespace Nore
open Go Go.Ab Go.Proofs Go.Proofs.YtlngokonhalcdaaGreatDoor
def kn54_tb : List (Nat × List DV × DV) := [(58, [(.agg [(.sl [[(.str ⟨#[108, 97, 109, 112]⟩), (.int .i64 (2)), (.int .i64 (0))], [(.str ⟨#[119, 97, 116, 99, 104]⟩), (.int .i64 (3)), (.int .i64 (0))]]), (.sl [[(.int .i64 (0)), (.int .i64 (1)), (.int .i64 (100)), (.int .i64 (110))], [(.int .i64 (1)), (.int .i64 (1)), (.int .i64 (105)), (.int .i64 (120))], [(.int .i64 (0)), (.int .i64 (0)), (.int .i64 (115)), (.int .i64 (130))], [(.int .i64 (1)), (.int .i64 (2)), (.int .i64 (125)), (.int .i64 (125))]])]), (.sl [])], (.tup [(.agg [(.sl [[(.str ⟨#[108, 97, 109, 112]⟩), (.int .i64 (2)), (.int .i64 (0))], [(.str ⟨#[119, 97, 116, 99, 104]⟩), (.int .i64 (3)), (.int .i64 (0))]]), (.sl [[(.int .i64 (0)), (.int .i64 (1)), (.int .i64 (100)), (.int .i64 (110))], [(.int .i64 (1)), (.int .i64 (1)), (.int .i64 (105)), (.int .i64 (120))], [(.int .i64 (0)), (.int .i64 (0)), (.int .i64 (115)), (.int .i64 (130))], [(.int .i64 (1)), (.int .i64 (2)), (.int .i64 (125)), (.int .i64 (125))]]), (.sl [])]), (.int .i64 (0))])),
  (60, [(.agg [(.sl [[(.str ⟨#[108, 97, 109, 112]⟩), (.int .i64 (2)), (.int .i64 (0))], [(.str ⟨#[119, 97, 116, 99, 104]⟩), (.int .i64 (3)), (.int .i64 (0))]]), (.sl [[(.int .i64 (0)), (.int .i64 (1)), (.int .i64 (100)), (.int .i64 (110))], [(.int .i64 (1)), (.int .i64 (1)), (.int .i64 (105)), (.int .i64 (120))], [(.int .i64 (0)), (.int .i64 (0)), (.int .i64 (115)), (.int .i64 (130))], [(.int .i64 (1)), (.int .i64 (2)), (.int .i64 (125)), (.int .i64 (125))]]), (.sl [])])], (.bool true))]
theorem kn54_ok : ∀ e ∈ kn54_tb, Known E e := fun e he => by
  simp only [kn54_tb, List.mem_cons, List.not_mem_nil, or_false] at he
  rcases he with rfl | rfl
  · exact kn2
  · exact kn11
theorem kn54 : Known E (65, [(.agg [(.sl [[(.str ⟨#[108, 97, 109, 112]⟩), (.int .i64 (2)), (.int .i64 (0))], [(.str ⟨#[119, 97, 116, 99, 104]⟩), (.int .i64 (3)), (.int .i64 (0))]]), (.sl [[(.int .i64 (0)), (.int .i64 (1)), (.int .i64 (100)), (.int .i64 (110))], [(.int .i64 (1)), (.int .i64 (1)), (.int .i64 (105)), (.int .i64 (120))], [(.int .i64 (0)), (.int .i64 (0)), (.int .i64 (115)), (.int .i64 (130))], [(.int .i64 (1)), (.int .i64 (2)), (.int .i64 (125)), (.int .i64 (125))]])]), (.sl []), (.agg [(.int .i64 (0)), (.int .i64 (1)), (.int .i64 (112)), (.int .i64 (112))])], (.tup [(.agg [(.sl [[(.str ⟨#[108, 97, 109, 112]⟩), (.int .i64 (2)), (.int .i64 (0))], [(.str ⟨#[119, 97, 116, 99, 104]⟩), (.int .i64 (3)), (.int .i64 (0))]]), (.sl [[(.int .i64 (0)), (.int .i64 (1)), (.int .i64 (100)), (.int .i64 (110))], [(.int .i64 (1)), (.int .i64 (1)), (.int .i64 (105)), (.int .i64 (120))], [(.int .i64 (0)), (.int .i64 (0)), (.int .i64 (115)), (.int .i64 (130))], [(.int .i64 (1)), (.int .i64 (2)), (.int .i64 (125)), (.int .i64 (125))]]), (.sl [])]), (.int .i64 (0))])) := topF_known (n := 60) kn54_ok (by kernel_rfl)
end Nore
