/- Strings that a call gathers: a []string of its own (a slice of strings that reads as a list). -/
import Derived.Test.YtmkaghpnihlhcaaApp
namespace Go.Proofs.Ytmkaghpnihlhcaa
open Go.RowKit
set_option linter.unusedVariables false
set_option linter.unusedSimpArgs false
theorem infoStr:(Try.prog.info? 9).map (fun i=>(i.zero,i.size,i.bytes))=some (some (.string ByteArray.empty),1,16):=by kernel_rfl
def OS (w:World) (B:Nat) (v:Value) (l:List ByteArray):Prop:=w.ownsRow B 9 1 v l.length (l.map Value.string)
theorem OS.nil (w:World) (B:Nat):OS w B (.slice none 0 0) []:=World.ownsRow_nil _ _ _ _
section
variable {w w':World} {B:Nat} {v v':Value} {l:List ByteArray}
theorem OS.drew (h:OS w B v l):OS w.drew B v l:=h
theorem OS.drewN (h:OS w B v l) (n:Nat):OS (w.drewN n) B v l:=h
theorem OS.alloc (h:OS w B v l) (o:Obj):OS (w.alloc o) B v l:=World.ownsRow.alloc h o
theorem OS.mono {B':Nat} (h:OS w B v l) (hB:B'≤B):OS w B' v l:=by
 refine⟨h.1,?_⟩
 rcases h.2 with h2|⟨g,cap,cur,e1,e2,e3⟩
 · exact .inl h2
 · exact .inr ⟨g,cap,cur,e1,Nat.le_trans hB e2,e3⟩
theorem OS.kept (h:OS w B v l) (hb:Below w.heap.size w w'):OS w' B v l:=by
 refine World.ownsRow.kept (row:=none) h ⟨hb.os,hb.tape,hb.output,hb.size,fun k hk _=>hb.block k hk⟩ ?_
 cases v.ownBlock<;>simp
theorem OS.form (h:OS w B v l):∃ A c,v= .slice A l.length c:=by
 rcases h.2 with⟨rfl,hn⟩|⟨g,cap,cur,rfl,_⟩
 · exact⟨none,0,by rw [hn]⟩
 · exact⟨_,_,rfl⟩
theorem OS.at_ {A:Option Addr} {c:Nat} (h:OS w B (.slice A l.length c) l) (hn:0<l.length):∃ g,A=some ⟨g,0,none⟩∧B≤g∧g<w.heap.size∧l.length≤c∧∀ k (hk:k<l.length),w.cell? ⟨g,k,none⟩=some (.string l[k]):=by
 rcases h.2 with⟨_,h2⟩|⟨g,c',cur,e1,hB,hh,hnc,_⟩
 · omega
 · injection e1 with e1 _ e3
   subst e1 e3
   refine⟨g,rfl,hB,Blk.lt (t:=9) (cs:=cur) hh,hnc,fun k hk=> ?_⟩
   rw [World.ownsRow.cellAt h k (by omega),List.getElem?_map,List.getElem?_eq_getElem hk];rfl
theorem OS.reads {A:Option Addr} {c:Nat} (h:OS w B (.slice A l.length c) l):Reads w w.heap.size 1 A l.length (l.map Value.string):=Reads.of_own h
theorem wpL_appS {ops:Array Oper} {rest:List Oper} {o:Oper} {a:Act} {Q:Exit→Act→World→Prop} (hgd:o.guard=none) (s x:Operand)
 (ho:o.op= .call {callee:= .builtin .append,args:=#[s,x],argTypes:=#[22,22]})
 (h:OS w B v l) (hs:a.eval s=v) (p:ByteArray)
 (hx:a.eval x= .slice (some ⟨w.heap.size,0,none⟩) 1 1) (hlen:l.length≤1000000000000) (hB:B≤w.heap.size)
 (hK:∀ v' w',OS w' B v' (l++ [p])→Grew w w' v v'→Below B w w'→wpList Try.prog ops Q rest (a.put o.dst v') w'):
 wpList Try.prog ops Q (o::rest) a (w.alloc (.cells #[.string p] 9)):=by
 obtain⟨i0,hi0,hz0,hz1,hz2⟩:=info_parts infoStr
 refine wpL_appG (P:=Try.prog) (Q:=Q) (rest:=rest) (ops:=ops) hgd s x ho Try.underlying22 hi0 hz0 hz1 hz2 rfl (by decide) h hs [.string p] 1 1 hx rfl (by
  intro u hu
  rw [List.mem_singleton] at hu;rw [hu];rfl) (by unfold maxLen;omega) (by omega) hB fun v' w' h2 h3=>hK v' w' ?_ h3 (h3.below hB (own_from h))
 unfold OS
 rw [List.length_append,List.map_append]
 exact h2
end
end Go.Proofs.Ytmkaghpnihlhcaa
