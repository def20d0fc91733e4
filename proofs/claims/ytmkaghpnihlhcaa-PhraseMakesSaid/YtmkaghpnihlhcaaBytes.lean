/- Bytes that a call gathers: append of new bytes onto a []byte of its own; the string that they are. -/
import Derived.Test.YtmkaghpnihlhcaaPlain
import Derived.Test.YtmkaghpnihlhcaaMem
import Derived.Test.YtmkaghpnihlhcaaRows
import Derived.WalkKit
import Derived.Laws.BytesArg
import Derived.Laws.AppendOwn
namespace Go.Proofs.Ytmkaghpnihlhcaa
open Go.RowKit
set_option linter.unusedVariables false
set_option linter.unusedSimpArgs false
def bv (b:UInt8):Value:= .int .u8 (b.toNat:Int)
def OB (w:World) (B:Nat) (v:Value) (l:List UInt8):Prop:=w.ownsRow B 5 1 v l.length (l.map bv)
theorem OB.nil (w:World) (B:Nat):OB w B (.slice none 0 0) []:=World.ownsRow_nil _ _ _ _
theorem OB.drew {w:World} {B:Nat} {v:Value} {l:List UInt8} (h:OB w B v l):OB w.drew B v l:=h
theorem OB.drewN {w:World} {B:Nat} {v:Value} {l:List UInt8} (h:OB w B v l) (n:Nat):OB (w.drewN n) B v l:=h
theorem OB.alloc {w:World} {B:Nat} {v:Value} {l:List UInt8} (h:OB w B v l) (o:Obj):OB (w.alloc o) B v l:=World.ownsRow.alloc h o
theorem OB.kept {w w':World} {B:Nat} {v:Value} {l:List UInt8} (h:OB w B v l) (hb:Below w.heap.size w w'):OB w' B v l:=by
 refine World.ownsRow.kept (row:=none) h ⟨hb.os,hb.tape,hb.output,hb.size,fun k hk _=>hb.block k hk⟩ ?_
 cases v.ownBlock<;>simp
theorem below_drewN {B:Nat} {a w:World} (h:Below B a w) (n:Nat):Below B a (w.drewN n):=⟨h.os,h.tape,h.output,h.size,h.block⟩
theorem OB.form {w:World} {B:Nat} {v:Value} {l:List UInt8} (h:OB w B v l):∃ A c,v= .slice A l.length c:=by
 rcases h.2 with⟨rfl,hn⟩|⟨g,cap,cur,rfl,_⟩
 · exact⟨none,0,by rw [hn]⟩
 · exact⟨_,_,rfl⟩
section
variable {w:World} {B:Nat} {v:Value} {l:List UInt8}
end
end Go.Proofs.Ytmkaghpnihlhcaa
