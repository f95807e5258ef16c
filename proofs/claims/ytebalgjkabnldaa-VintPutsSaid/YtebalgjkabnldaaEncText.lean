/- A text's bytes, plain law: the code's and the document's are the same. -/
import Derived.Test.YtebalgjkabnldaaText
import Derived.Test.YtebalgjkabnldaaX16
import Derived.Test.YtebalgjkabnldaaX5
import Derived.Test.YtebalgjkabnldaaEnc
namespace Go.Proofs.Ytebalgjkabnldaa.EncText
open Go Go.RowKit Go.Proofs.Ytebalgjkabnldaa.X Go.Proofs.Ytebalgjkabnldaa.Dec Go.Proofs.Ytebalgjkabnldaa.Enc Go.Proofs.YtebalgjkabnldaaW.PrintWords Go.Proofs.YtebalgjkabnldaaW.PrintLast Go.Proofs.YtebalgjkabnldaaW.PrintMore
set_option linter.unusedVariables false
/-- A text's bytes, behind how many there are. -/
def encT (s : ByteArray) : List Int := enc s.size ++ bytesOf s
theorem bytesOf_bytes (s : ByteArray) : IsBytes (bytesOf s) := by
  intro x hx
  obtain ⟨y, _, rfl⟩ := List.mem_map.1 hx
  have := y.toNat_lt
  omega
theorem encT_bytes (s : ByteArray) : IsBytes (encT s) := by
  intro x hx
  rcases List.mem_append.1 hx with h | h
  · exact enc_bytes _ x h
  · exact bytesOf_bytes _ x h
theorem enc_len (n : Nat) (h : n < 18446744073709551616) : (enc n).length ≤ 10 := by
  unfold enc; rw [encL_length]; exact grp_le h
theorem encT_len (s : ByteArray) (h : s.size < 1000000000000) : (encT s).length ≤ s.size + 10 := by
  unfold encT; rw [List.length_append, bytesOf_length]; have := enc_len s.size (by omega); omega
theorem text_is (s : ByteArray) (h : s.size < 1000000000000) (k : Nat) (hk : 11 < k) : vint_Text.f k s = some (encT s) := by
  have hl := encT_len s h
  unfold vint_Text.f
  rw [num_is s.size (by omega) k (by omega), Option.bind_some, if_pos (by omega)]
  unfold vint_joined.f bytes_Join.f
  unfold encT at hl
  rw [if_pos ⟨rfl, by simp, by simpa using by rw [List.length_append] at hl; omega⟩]
  simp [encT]
theorem wrap_size (s : ByteArray) (h : s.size < 1000000000000) : IntKind.u64.wrap (s.size : Int) = (s.size : Int) := by rw [IntKind.wrap_u64]; omega
theorem rtext_is (s : ByteArray) (h : s.size < 1000000000000) (k : Nat) (hk : 11 < k) : firkinref01_Text.f k s = some (encT s) := by
  have hl := encT_len s h
  unfold encT at hl
  rw [List.length_append, bytesOf_length] at hl
  unfold firkinref01_Text.f
  rw [wrap_size s h, rnum_is s.size (by omega) k hk, Option.bind_some, if_pos (by omega)]
  rfl
theorem same_self (l : List Int) : firkinref01_Same.f l l = some true := by unfold firkinref01_Same.f; simp
end Go.Proofs.Ytebalgjkabnldaa.EncText
