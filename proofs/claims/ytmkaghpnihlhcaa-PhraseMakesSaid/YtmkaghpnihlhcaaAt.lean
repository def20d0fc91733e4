/- Walk: wickref.At. -/
import Derived.Test.YtmkaghpnihlhcaaStr
import Derived.LoopTactic
import Derived.Lib.Hide
import Derived.WalkKit
import Derived.WalkSpells
import Derived.WalkLawsBesides
import Derived.Lib.Index
import Derived.Lib.IndexLaws
namespace Go.Proofs.Ytmkaghpnihlhcaa
open Go.RowKit
set_option linter.unusedVariables false
set_option linter.unusedSimpArgs false
def atB (l:List UInt8) (i:Int) (t:List UInt8):Bool:=decide (0≤i)&&decide (i≤l.length)&&Lib.occAt l t i.toNat
theorem occ_iff (s t:ByteArray) (k:Nat):Lib.occAt s.data.toList t.data.toList k=true↔(s.extract k (k+t.size)).data.toList=t.data.toList:=by
 unfold Lib.occAt
 rw [List.isPrefixOf_iff_prefix,lst_ext,List.prefix_iff_eq_take,List.drop_take,show k+t.size-k=t.size from by omega,lst_len]
 exact eq_comm
theorem occ_long {s t:ByteArray} {k:Nat} (h:s.size<k+t.size) (hk:k≤s.size):Lib.occAt s.data.toList t.data.toList k=false:=by
 rw [Bool.eq_false_iff];intro ho
 unfold Lib.occAt at ho
 have:=(List.isPrefixOf_iff_prefix.1 ho).length_le
 rw [lst_len,List.length_drop,lst_len] at this
 omega
set_option maxHeartbeats 400000 in
theorem at_any (s t:ByteArray) (i:Int) (w:World) (hs:s.size≤140737488355328) (ht:t.size≤140737488355328) (h0: -9223372036854775808≤i) (h1:i≤9223372036854775807):
 Calls Try.prog 12 #[.string s,.int .i64 i,.string t] w fun e w'=>e= .returned (.bool (atB s.data.toList i t.data.toList))∧w=w':=by
 by_cases c0:0≤i
 · by_cases c1:i≤s.size
   · obtain⟨k,rfl⟩:=Int.eq_ofNat_of_zero_le c0
     have hat:atB s.data.toList (k:Int) t.data.toList=Lib.occAt s.data.toList t.data.toList k:=by
      unfold atB;rw [lst_len];simp [c1]
     rw [hat]
     clear hat
     by_cases c2:(t.size:Int)≤(s.size:Int)-k
     · go_enter Try.func12,Try.ntmps12
       go_wp2
       go_ret
       exact⟨ret_bool (by rw [Bool.eq_iff_iff,occ_iff,beq_iff_eq,Lib.toList_data,Lib.toList_data]),rfl⟩
     · rw [occ_long (by omega) (by omega)]
       go_enter Try.func12,Try.ntmps12
       go_wp2
       go_ret
       exact⟨rfl,rfl⟩
   · have hat:atB s.data.toList i t.data.toList=false:=by unfold atB;rw [lst_len];simp [c1]
     rw [hat];clear hat
     go_enter Try.func12,Try.ntmps12
     go_wp2
     go_ret
     exact⟨rfl,rfl⟩
 · have hat:atB s.data.toList i t.data.toList=false:=by unfold atB;simp [c0]
   rw [hat];clear hat
   go_enter Try.func12,Try.ntmps12
   go_wp2
   go_ret
   exact⟨rfl,rfl⟩
end Go.Proofs.Ytmkaghpnihlhcaa
