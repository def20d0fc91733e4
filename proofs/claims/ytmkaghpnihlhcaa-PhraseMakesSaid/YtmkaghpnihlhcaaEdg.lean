/- Maps keyed by phrase.edge (a node and a byte) that the call makes: what they hold, as a function. -/
import Derived.Test.YtmkaghpnihlhcaaApp
import Derived.Maps.OwnSet
import Derived.Maps.OwnOps
import Derived.DeepKeys4
namespace Go.Proofs.Ytmkaghpnihlhcaa
open Go.RowKit
open Go.Maps (Keyed)
set_option linter.unusedVariables false
set_option linter.unusedSimpArgs false
theorem laidOutP:laidOutB Try.prog=true:=by kernel_rfl
theorem edgeRow:(53:TypeId)<Try.prog.types.size:=of_decide_eq_true (by kernel_rfl)
theorem edgeWide:(match Try.prog.underlying 53 with|some (.array _ _)|some (.struct _)=>true|_=>false)=true:=by kernel_rfl
set_option maxRecDepth 100000 in
theorem edgeLaw:Keyed Try.prog 53:=Keyed.of_law (deep_law_laid laidOutP (m:=2) (by omega) edgeRow (by kernel_rfl) edgeWide)
theorem edgeZero (w:World):(zeroValue 3).run Try.prog w= .ok (.int .i64 0) w:=by kernel_rfl
theorem edgeCells:Try.prog.cellsOf 53=2:=by kernel_rfl
theorem edgeCell0:Try.prog.cellsOf 3=1:=by kernel_rfl
theorem edgeCell1:Try.prog.cellsOf 5=1:=by kernel_rfl
theorem edgeKt:Try.prog.keyType 53=true:=by kernel_rfl
abbrev edgeV (u b:Int):Value:= .agg #[.int .i64 u,.int .u8 b]
theorem edge_lits (d:Nat) (u b:Int) (hu:(Lit.int .i64 u).wf=true) (hb:(Lit.int .u8 b).wf=true):Try.prog.keyLits (d+2) 53 [.int .i64 u,.int .u8 b]=some [.int .i64 u,.int .u8 b]:=by
 simp [Program.keyLits,Try.underlying53,Try.underlying3,Try.underlying5,edgeCells,edgeCell0,edgeCell1,hu,hb]
def edgeL (u b:Int):Lit:= .string (keyBytes [.int .i64 u,.int .u8 b])
theorem edge_key (u b:Int) (hu:(Lit.int .i64 u).wf=true) (hb:(Lit.int .u8 b).wf=true):keyOf Try.prog 53 (edgeV u b)=some (edgeL u b):=by
 obtain⟨d,hd⟩:∃ d,Try.prog.types.size+1=d+2:=⟨Try.prog.types.size-1,by have h:(53:Nat)<Try.prog.types.size:=edgeRow;omega⟩
 have hf:(edgeV u b).formed Try.prog 53=true:=by simp [edgeV,Value.formed,Try.underlying53,edgeCells]
 have hc:(edgeV u b).cells.toList= [.int .i64 u,.int .u8 b]:=by simp [edgeV,Value.cells]
 unfold keyOf
 rw [Try.underlying53]
 simp only [edgeKt,hf,hc,hd,edge_lits d u b hu hb,Bool.and_self,if_true,Option.map_some]
 rfl
theorem edge_inj {u b u' b':Int} (hu:(Lit.int .i64 u).wf=true) (hb:(Lit.int .u8 b).wf=true) (hu':(Lit.int .i64 u').wf=true) (hb':(Lit.int .u8 b').wf=true) (h:edgeL u b=edgeL u' b'):u=u'∧b=b':=by
 have h1:=edge_key u b hu hb
 have h2:=edge_key u' b' hu' hb'
 rw [h] at h1
 have:=edgeLaw.inj h1 h2
 simp only [edgeV,Value.agg.injEq,Array.mk.injEq,List.cons.injEq,Value.int.injEq,true_and,and_true] at this
 exact this
def EdgeM (w:World) (g n:Nat) (F:Int→Int→Option Nat):Prop:=
 ∃ D:DataW Unit,w.ownsMap Try.prog 53 (plainElem Try.prog 3) g n D∧∀ u b,(Lit.int .i64 u).wf=true→(Lit.int .u8 b).wf=true→Maps.has D (edgeL u b)=(F u b).isSome∧D.atKey (edgeL u b) (.lit (.int .i64 0))= .lit (.int .i64 (((F u b).getD 0:Nat):Int))
section
variable {w w':World} {g n:Nat} {F:Int→Int→Option Nat}
theorem EdgeM.made (w:World):EdgeM (w.alloc (.map #[] 0)) w.heap.size 0 (fun _ _=>none):=
 ⟨_,World.ownsMap_made w _ _ _,fun u b _ _=>⟨rfl,rfl⟩⟩
theorem EdgeM.grown {row:Option Nat} (h:EdgeM w g n F) (hg:w.grownBy w' row) (hne:some g≠row):EdgeM w' g n F:=by
 obtain⟨D,h1,h2⟩:=h
 exact⟨D,h1.kept hg hne,h2⟩
theorem EdgeM.alloc (h:EdgeM w g n F) (o:Obj):EdgeM (w.alloc o) g n F:=by
 obtain⟨D,h1,h2⟩:=h
 exact⟨D,h1.alloc o,h2⟩
theorem EdgeM.drew (h:EdgeM w g n F):EdgeM w.drew g n F:=h
theorem EdgeM.lt (h:EdgeM w g n F):g<w.heap.size:=by
 obtain⟨D,h1,h2⟩:=h
 exact h1.lt
theorem EdgeM.kept (h:EdgeM w g n F) (hb:Below w.heap.size w w'):EdgeM w' g n F:=h.grown (Grew.of_below hb (.slice none 0 0)).grown (by simp [Value.ownBlock])
theorem EdgeM.setCell (h:EdgeM w g n F) {a:Addr} (ha:g≠a.block) (u:Value):EdgeM (w.setCell a u) g n F:=by
 obtain⟨D,h1,h2⟩:=h
 exact⟨D,h1.setCell ha u,h2⟩
def putF (F:Int→Int→Option Nat) (u b:Int) (k:Nat):Int→Int→Option Nat:=fun u' b'=>if u'=u∧b'=b then some k else F u' b'
theorem EdgeM.put (h:EdgeM w g n F) (hn:n<maxLen) {ops:Array Oper} {rest:List Oper} {o:Oper} {a:Act} {Q:Exit→Act→World→Prop} (hg:o.guard=none) (m x v:Operand)
 (hop:o.op=Op.mapUpdate 34 m x v) (hm:a.eval m= .map (some g)) (u b:Int) (k:Nat) (hx:a.eval x=edgeV u b) (hv:a.eval v= .int .i64 (k:Int)) (hu:(Lit.int .i64 u).wf=true) (hb:(Lit.int .u8 b).wf=true) (hk:(Lit.int .i64 (k:Int)).wf=true)
 (hK:∀ w',EdgeM w' g (n+1) (putF F u b k)→w.grownBy w' (some g)→wpList Try.prog ops Q rest (a.put o.dst undef) w'):wpList Try.prog ops Q (o::rest) a w:=by
 obtain⟨D,h1,h2⟩:=h
 refine wpList_mapUpdate_own w hg m x v _ hop 53 3 edgeLaw Try.underlying34 _ g n D hm h1 hn _ _ (edgeL u b) hx hv (edge_key u b hu hb) _ [] (plainElem_int Try.underlying3 hk) fun w' h3 h4=>hK w' ⟨_,h3,fun u' b' hu' hb'=> ?_⟩ h4
 have hkl:WideAt.IsKeyLit (edgeL u b):=trivial
 by_cases he:u'=u∧b'=b
 · obtain⟨rfl,rfl⟩:=he
   unfold putF
   rw [if_pos ⟨rfl,rfl⟩]
   exact⟨Maps.has_put_same h1.isMap hkl _,Maps.atKey_put_same h1.isMap hkl _ _⟩
 · have hne:edgeL u' b'≠edgeL u b:=fun e=>he (edge_inj hu' hb' hu hb e)
   unfold putF
   rw [if_neg he]
   rw [Maps.has_put_other hne,Maps.atKey_put_other hne]
   exact h2 u' b' hu' hb'
end
end Go.Proofs.Ytmkaghpnihlhcaa
