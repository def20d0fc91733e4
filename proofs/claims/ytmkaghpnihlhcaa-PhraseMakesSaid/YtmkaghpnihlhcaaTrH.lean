/- Edges sorted: slices.SortFunc by its contract; the same for a row of ints. -/
import Derived.Test.YtmkaghpnihlhcaaTrG
import Derived.Test.YtmkaghpnihlhcaaTrD
import Derived.Test.YtmkaghpnihlhcaaShelfB
import Derived.Test.YtmkaghpnihlhcaaShelf
namespace Go.Proofs.Ytmkaghpnihlhcaa
open Go.RowKit
open Go.Shelf Go.Lib Go.Sort
set_option linter.unusedVariables false
set_option linter.unusedSimpArgs false
abbrev EdT:=Fin 1024×Fin 256
def edE (x:EdT):Nat×Nat:=(x.1.val,x.2.val)
def edOf (x:Nat×Nat):EdT:=(Fin.ofNat 1024 x.1,Fin.ofNat 256 x.2)
theorem edE_of {x:Nat×Nat} (h1:x.1<1024) (h2:x.2<256):edE (edOf x)=x:=by
 unfold edE edOf
 refine Prod.ext ?_ ?_
 · show x.1%1024=x.1;omega
 · show x.2%256=x.2;omega
theorem edE_inj {x y:EdT} (h:edE x=edE y):x=y:=by
 unfold edE at h
 refine Prod.ext (Fin.ext ?_) (Fin.ext ?_)
 · exact congrArg Prod.fst h
 · exact congrArg Prod.snd h
def edEnc (x:EdT):List Value:=edC (edE x)
def edCf (x y:EdT):Int:=((x.1.val:Int)-(y.1.val:Int))*256+(x.2.val:Int)-(y.2.val:Int)
theorem edLt (x y:EdT):ltOf edCf x y=true↔ltE (edE x) (edE y):=by
 unfold ltOf edCf ltE edE
 rw [decide_eq_true_eq]
 have h1:=x.2.isLt
 have h2:=y.2.isLt
 omega
theorem edLtF (x y:EdT):ltOf edCf x y=false↔¬ltE (edE x) (edE y):=by
 rw [←edLt,Bool.not_eq_true]
theorem edSWO:SWO (ltOf edCf) where
 irrefl x:=(edLtF x x).2 (ltE.ir _)
 trans x y z h1 h2:=(edLt x z).2 (((edLt x y).1 h1).tr ((edLt y z).1 h2))
 ntrans x y z h1 h2:=by
  rw [edLtF] at*
  unfold ltE at*
  omega
set_option maxHeartbeats 1000000 in
theorem cmp_any (x y:EdT) (W:World):Calls Try.prog 23 #[.agg #[.int .i64 (x.1.val:Int),.int .u8 (x.2.val:Int)],.agg #[.int .i64 (y.1.val:Int),.int .u8 (y.2.val:Int)]] W fun e w'=>e= .returned (.int .i64 (edCf x y))∧∃ q os',w'=grow (W.drewN q) os':=by
 have e1:IntKind.i64.wrap ((x.1.val:Int)-(y.1.val:Int))=(x.1.val:Int)-(y.1.val:Int):=IntWalk.i64_in _ (by omega)
 have e2:IntKind.i64.wrap (((x.1.val:Int)-(y.1.val:Int))*256)=((x.1.val:Int)-(y.1.val:Int))*256:=IntWalk.i64_in _ (by omega)
 have e3:IntKind.i64.wrap ((x.2.val:Int))=(x.2.val:Int):=IntWalk.i64_in _ (by omega)
 have e4:IntKind.i64.wrap ((y.2.val:Int))=(y.2.val:Int):=IntWalk.i64_in _ (by omega)
 have e5:IntKind.i64.wrap (((x.1.val:Int)-(y.1.val:Int))*256+(x.2.val:Int))=((x.1.val:Int)-(y.1.val:Int))*256+(x.2.val:Int):=IntWalk.i64_in _ (by omega)
 have e6:IntKind.i64.wrap (((x.1.val:Int)-(y.1.val:Int))*256+(x.2.val:Int)-(y.2.val:Int))=edCf x y:=IntWalk.i64_in _ (by omega)
 obtain⟨R,hR⟩:∃ R,R=edCf x y:=⟨_,rfl⟩
 rw [←hR] at e6⊢
 clear hR
 go_enter Try.func23,Try.ntmps23
 go_wp2_with fail
 go_ret
 exact⟨rfl,0,_,by rw [alloc_eq_grow,alloc_eq_grow,grow_grow];rfl⟩
theorem flat_get (d:Array EdT) (j:Nat) (hj:j<d.size*2):(flatK edEnc 2 d)[j]! =(edF (d.toList.map edE))[j]! :=by
 rw [get_flatK _ _ _ _ hj]
 have hk:j/2<d.size:=by omega
 have hk2:j/2<(d.toList.map edE).length:=by simpa using hk
 have h1:=edF_get hk2 (show j%2<2 by omega)
 rw [show j/2*2+j%2=j by omega] at h1
 have h2:(d.toList.map edE)[j/2]=edE d[j/2]! :=by
  rw [List.getElem_map,getElem!_pos d (j/2) hk];rfl
 rw [h2] at h1
 have h3:j%2<(edC (edE d[j/2]!)).length:=(show j%2<2 by omega)
 rw [List.getElem!_eq_getElem?_getD,List.getElem!_eq_getElem?_getD,h1];rfl
theorem edF_lt {l:List (Nat×Nat)} {j:Nat} (h:j<l.length*2):(edF l)[j]? =some (edF l)[j]! :=by
 have:j<(edF l).length:=by rw [edF_len];exact h
 rw [List.getElem?_eq_getElem this,getElem!_pos (edF l) j this]
theorem grownBy_sortK {w:World} {g:Nat} (hg:g<w.heap.size) (n:Nat) (d:Array EdT) (os:Array Obj):w.grownBy (sortWorldK edEnc 2 w g 0 n d os) (some g):=by
 refine⟨rfl,rfl,rfl,size_sortWorldK_c edEnc 2 w g 0 n d os,fun k hk hne=> ?_⟩
 unfold sortWorldK
 have h1:k<(putRowK edEnc 2 (Sort.ahead w n) g 0 d).heap.size:=by rw [size_putRowK];exact hk
 rw [heap_grow_old _ _ h1]
 unfold putRowK putRow mapBlock
 have hkg:g≠k:=fun e=>hne (by rw [e])
 simp [Array.getElem?_modify,hkg]
theorem sort_any (w:World) (g c:Nat) (l:List (Nat×Nat)) (hb:∀ x∈l,x.1<1024∧x.2<256) (hl:l.length≤1000) (hn:l.Nodup) (hH:∀ j,j<l.length*2→w.cell? ⟨g,j,none⟩=(edF l)[j]? ∧w.frozen? ⟨g,j,none⟩=false) (hg:g<w.heap.size):
 Calls Try.prog 22 #[.slice (some ⟨g,0,none⟩) l.length c,.func (.func 23) #[] #[]] w fun e w'=>e= .returned (.tuple #[])∧
  ∃ l':List (Nat×Nat),(∀ x,x∈l'↔x∈l)∧l'.Pairwise ltE∧l'.length=l.length∧Reads w' w'.heap.size 2 (some ⟨g,0,none⟩) l'.length (edF l')∧w.grownBy w' (some g):=by
 let d:Array EdT:=(l.map edOf).toArray
 have hds:d.size=l.length:=by simp [d]
 have hdl:d.toList.map edE=l:=by
  show (l.map edOf).map edE=l
  rw [List.map_map]
  have:∀ x∈l,(edE∘edOf) x=x:=fun x hx=>edE_of (hb x hx).1 (hb x hx).2
  exact(List.map_congr_left this).trans (List.map_id _)
 have hHK:HoldsK edEnc 2 w g 0 d:=by
  intro j hj
  rw [size_flatK] at hj
  have hj2:j<l.length*2:=by rw [hds] at hj;exact hj
  rw [Nat.zero_add]
  refine⟨?_,(hH j hj2).2⟩
  rw [(hH j hj2).1,edF_lt hj2,id,flat_get d j hj,hdl]
 have eg:∀ args w,(callFunc 23 args).run Try.prog w= .ok (.enter 23 args) w:=enters_of Try.func23 (by kernel_rfl) rfl
 have hcmp:CmpLays Try.prog 23 #[] edEnc 2 edCf g 0 d.size w:=fun m os dk _ x y=>cmp_any x y _
 have hT:∀ x y,(ltOf edCf) x y=false→(ltOf edCf) y x=false→x=y:=fun x y h1 h2=>by
  rw [edLtF] at h1 h2
  rcases ltE.tot (edE x) (edE y) with h|h|h
  · exact absurd h h1
  · exact edE_inj h
  · exact absurd h h2
 have hcon:=AnyQ.slices_SortFunc_total Try.sortEd 2 Try.isAgg53 Try.sizeOf53 edEnc (fun _=>rfl) (fun x v hv=>by simp [edEnc,edC] at hv;rcases hv with rfl|rfl<;>rfl) edCf edSWO 23 #[] g 0 c d w eg hcmp hHK hg (by rw [hds];omega) hT
 change Calls Try.prog 22 _ _ _ at hcon
 rw [hds] at hcon
 refine hcon.mono ?_
 rintro e w' ⟨rfl,n,os,rfl⟩
 obtain⟨m,hm⟩:∃ m,m=d.toList.mergeSort fun x y=> !(ltOf edCf) y x:=⟨_,rfl⟩
 rw [←hm]
 have hp:m.Perm d.toList:=by rw [hm];exact List.mergeSort_perm _ _
 have hlen:m.length=l.length:=by rw [hp.length_eq];simp [d]
 have hs:m.Pairwise (fun a b=>(!(ltOf edCf) b a)=true):=by
  rw [hm]
  refine List.pairwise_mergeSort (fun a b c h1 h2=> ?_) (fun a b=> ?_) _
  · rw [Bool.not_eq_true'] at*
    exact edSWO.ntrans _ _ _ h2 h1
  · rw [Bool.or_eq_true,Bool.not_eq_true',Bool.not_eq_true',edLtF,edLtF]
    unfold ltE
    omega
 have hnd:m.Nodup:=by
  refine hp.nodup_iff.2 ?_
  have:(d.toList.map edE).Nodup:=by rw [hdl];exact hn
  exact List.Pairwise.of_map edE (fun a b h e=>h (congrArg edE e)) this
 have hmem:∀ x,x∈m.map edE↔x∈l:=fun x=>by
  rw [(hp.map edE).mem_iff,hdl]
 have hsrt:(m.map edE).Pairwise ltE:=by
  rw [List.pairwise_map]
  refine List.Pairwise.imp₂ (fun a b h1 h2=> ?_) hs hnd
  rw [Bool.not_eq_true',edLtF] at h1
  rcases ltE.tot (edE a) (edE b) with h|h|h
  · exact h
  · exact absurd (edE_inj h) h2
  · exact absurd h h1
 have hgb:=grownBy_sortK hg n m.toArray os
 have hHK2:HoldsK edEnc 2 (sortWorldK edEnc 2 w g 0 n m.toArray os) g 0 m.toArray:=holdsK_sortWorldK edEnc 2 w g 0 n d m.toArray os hg hHK (by rw [hds];simp [hlen])
 refine⟨rfl,m.map edE,hmem,hsrt,by rw [List.length_map];exact hlen,⟨by rw [edF_len],fun hpos=>⟨_,rfl,Nat.lt_of_lt_of_le hg hgb.size,fun j u hj=> ?_⟩⟩,hgb⟩
 have hjl:j<(m.map edE).length*2:=by
  have:=(List.getElem?_eq_some_iff.1 hj).1
  rw [edF_len] at this;exact this
 have hjm:j<m.toArray.size*2:=by rw [List.length_map] at hjl;simpa using hjl
 have h1:=(hHK2 j (by rw [size_flatK];exact hjm)).1
 rw [Nat.zero_add,id,flat_get _ _ hjm] at h1
 have e1:(⟨g,0,none⟩:Addr).add j=⟨g,j,none⟩:=by
  by_cases h:j=0
  · subst h;rfl
  · simp [Addr.add,h]
 rw [e1,h1]
 have h2:=edF_lt hjl
 rw [hj] at h2
 exact h2.symm
end Go.Proofs.Ytmkaghpnihlhcaa
