/- Strings as lists of bytes. -/
import Derived.Test.YtljboandbjahdaaBase
namespace Go.Proofs.Ytljboandbjahdaa.Pure
open Go.RowKit Go.Proofs.Ytljboandbjahdaa.X Go.Proofs.YtljboandbjahdaaW.PrintWords Go.Proofs.YtljboandbjahdaaW.PrintLast Go.Proofs.YtljboandbjahdaaW.PrintMore

theorem str_bytes (s : ByteArray) : strOfNums (bytesOf s) = s := bytesOf_inj (bytesOf_strOfNums _ (bytesOf_range s))
theorem str_nil : strOfNums [] = (⟨#[]⟩ : ByteArray) := rfl
theorem nil_app (s : ByteArray) : s ++ (⟨#[]⟩ : ByteArray) = s := by apply bytesOf_inj; rw [bytesOf_append, bytesOf_nil, List.append_nil]
theorem app_nil (s : ByteArray) : (⟨#[]⟩ : ByteArray) ++ s = s := by apply bytesOf_inj; rw [bytesOf_append, bytesOf_nil, List.nil_append]
theorem app_assoc (a b c : ByteArray) : a ++ b ++ c = a ++ (b ++ c) := by apply bytesOf_inj; simp only [bytesOf_append, List.append_assoc]
end Go.Proofs.Ytljboandbjahdaa.Pure
