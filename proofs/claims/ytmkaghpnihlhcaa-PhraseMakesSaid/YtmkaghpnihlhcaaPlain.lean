/- Plain lemmas on byte strings as lists: no program in sight. -/
import Derived.WalkKit
import Derived.Lib.Strings
import Derived.Lib.IndexBytes
namespace Go.Proofs.Ytmkaghpnihlhcaa
open Go.RowKit
set_option linter.unusedVariables false
set_option linter.unusedSimpArgs false
theorem ret_bool {a b:Bool} (h:a=b):Ending.returned (.bool a)= .returned (.bool b):=by rw [h]
abbrev lst (s:ByteArray):List UInt8:=s.data.toList
abbrev str (l:List UInt8):ByteArray:=⟨l.toArray⟩
theorem lst_len (s:ByteArray):s.data.toList.length=s.size:=by rw [Array.length_toList];rfl
theorem lst_str (l:List UInt8):lst (str l)=l:=by simp [lst,str]
theorem size_str (l:List UInt8):(str l).size=l.length:=by show l.toArray.size=_;simp
theorem lst_get (s:ByteArray) (k:Nat) (h:k<s.size):s.data.toList[k]'(by rw [lst_len];exact h)=s[k]:=by
 simp;rfl
theorem take_all (s:ByteArray) {k:Nat} (h:s.size≤k):s.data.toList.take k=s.data.toList:=List.take_of_length_le (by rw [lst_len];exact h)
theorem lst_inj {a b:ByteArray} (h:a.data.toList=b.data.toList):a=b:=by
 cases a;cases b;simp at h;simp [h]
theorem lst_ext (s:ByteArray) (a b:Nat):(s.extract a b).data.toList=(s.data.toList.take b).drop a:=by
 rw [Lib.extract_data,List.drop_take]
theorem lst_mk (l:List UInt8):(ByteArray.mk l.toArray).data.toList=l:=by simp
end Go.Proofs.Ytmkaghpnihlhcaa
