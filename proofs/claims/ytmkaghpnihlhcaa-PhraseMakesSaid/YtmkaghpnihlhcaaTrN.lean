/- The reference's tree of phrases: texts in memory, levels by part; walk: wickref.ends. -/
import Derived.Test.YtmkaghpnihlhcaaAt
import Derived.Test.YtmkaghpnihlhcaaOS
import Derived.Test.YtmkaghpnihlhcaaConv
import Derived.Test.YtmkaghpnihlhcaaTrL
namespace Go.Proofs.Ytmkaghpnihlhcaa
open Go.RowKit
set_option linter.unusedVariables false
set_option linter.unusedSimpArgs false
theorem suf_ext {s t:ByteArray} (h:t.size≤s.size):(s.extract (s.size-t.size) s.size).data.toList=t.data.toList↔t.data.toList.isSuffixOf s.data.toList=true:=by
 rw [List.isSuffixOf_iff_suffix,lst_ext,take_all s (Nat.le_refl _),List.suffix_iff_eq_drop,lst_len,lst_len]
 exact eq_comm
theorem suf_long {s t:ByteArray} (h:s.size<t.size):t.data.toList.isSuffixOf s.data.toList=false:=by
 rw [Bool.eq_false_iff];intro hs
 have:=(List.isSuffixOf_iff_suffix.1 hs).length_le
 rw [lst_len,lst_len] at this
 omega
set_option maxHeartbeats 400000 in
theorem ends_any (s t:ByteArray) (w:World) (hs:s.size≤140737488355328) (ht:t.size≤140737488355328):
 Calls Try.prog 14 #[.string s,.string t] w fun e w'=>e= .returned (.bool (t.data.toList.isSuffixOf s.data.toList))∧w=w':=by
 by_cases c:t.size≤s.size
 · obtain⟨R,hR⟩:∃ R,R=t.data.toList.isSuffixOf s.data.toList:=⟨_,rfl⟩
   have hX:((s.extract (s.size-t.size) s.size).toList==t.toList)=R:=by
    rw [hR,Bool.eq_iff_iff,beq_iff_eq,Lib.toList_data,Lib.toList_data]
    exact suf_ext c
   have d1:decide ((t.size:Int)≤(s.size:Int))=true:=decide_eq_true (by omega)
   have d2:(t.size:Int)≤(s.size:Int):=by omega
   have d3:(0:Int)≤(s.size:Int)-(t.size:Int):=by omega
   have d4:(s.size:Int)-(t.size:Int)≤(s.size:Int):=by omega
   have d5:IntKind.i64.wrap ((s.size:Int)-(t.size:Int))=(s.size:Int)-(t.size:Int):=IntWalk.i64_in _ (by omega)
   have d6:((s.size:Int)-(t.size:Int)).toNat=s.size-t.size:=by omega
   rw [←hR]
   clear hR
   go_enter Try.func14,Try.ntmps14
   go_wp2_with fail
   go_ret
   exact⟨rfl,rfl⟩
 · rw [suf_long (by omega)]
   have d1:decide ((t.size:Int)≤(s.size:Int))=false:=decide_eq_false (by omega)
   have d2:¬(t.size:Int)≤(s.size:Int):=by omega
   go_enter Try.func14,Try.ntmps14
   go_wp2_with fail
   go_ret
   exact⟨rfl,rfl⟩
theorem at_zero (l t:List UInt8):atB l 0 t=t.isPrefixOf l:=by
 unfold atB Lib.occAt
 simp
def OT (w:World) (B:Nat) (v:Value) (T:List (List UInt8)):Prop:=OS w B v (T.map str)
section
variable {w w':World} {B:Nat} {v:Value} {T:List (List UInt8)}
theorem OT.nil (w:World) (B:Nat):OT w B (.slice none 0 0) []:=OS.nil w B
theorem OT.kept (h:OT w B v T) (hb:Below w.heap.size w w'):OT w' B v T:=OS.kept h hb
theorem OT.low (h:OT w B v T) {H:Nat} (hv:∀ x,v.ownBlock=some x→x<H) (hb:Below H w w'):OT w' B v T:=by
 rcases h.2 with e|⟨x,cap,cur,e,hx,hw,r⟩
 · exact⟨h.1,.inl e⟩
 · exact⟨h.1,.inr ⟨x,cap,cur,e,hx,(hb.block x (hv x (by rw [e];rfl))).trans hw,r⟩⟩
theorem OT.lt (h:OT w B v T):∀ x,v.ownBlock=some x→x<w.heap.size:=fun x hx=>(World.ownsRow.lt h x hx).2
theorem OT.form (h:OT w B v T):∃ A c,v= .slice A T.length c:=by
 obtain⟨A,c,e⟩:=OS.form h
 rw [List.length_map] at e
 exact⟨A,c,e⟩
theorem OT.at_ {A:Option Addr} {c:Nat} (h:OT w B (.slice A T.length c) T) {k:Nat} (hk:k<T.length):∃ g,A=some ⟨g,0,none⟩∧w.cell? ⟨g,k,none⟩=some (.string (str (T.getD k [])))∧w.cell? ((⟨g,0,none⟩:Addr).add k)=some (.string (str (T.getD k []))):=by
 have hl:(T.map str).length=T.length:=List.length_map _
 unfold OT at h
 rw [←hl] at h
 obtain⟨g,e,_,_,_,hc⟩:=h.at_ (by omega)
 have h1:=hc k (by omega)
 rw [List.getElem_map,←gD [] hk] at h1
 have e1:(⟨g,0,none⟩:Addr).add k=⟨g,k,none⟩:=by
  by_cases h:k=0
  · subst h;rfl
  · simp [Addr.add,h]
 exact⟨g,e,h1,by rw [e1];exact h1⟩
theorem wpL_tx {ops:Array Oper} {rest:List Oper} {o:Oper} {a:Act} {Q:Exit→Act→World→Prop} (hgd:o.guard=none) (s x:Operand)
 (ho:o.op= .call {callee:= .builtin .append,args:=#[s,x],argTypes:=#[22,22]})
 (h:OT w B v T) (hs:a.eval s=v) (t:List UInt8)
 (hx:a.eval x= .slice (some ⟨w.heap.size,0,none⟩) 1 1) (hlen:T.length≤1000000000000) (hB:B≤w.heap.size)
 (hK:∀ A c w',OT w' B (.slice A (T.length+1) c) (T++ [t])→Below B w w'→wpList Try.prog ops Q rest (a.put o.dst (.slice A (T.length+1) c)) w'):
 wpList Try.prog ops Q (o::rest) a (w.alloc (.cells #[.string (str t)] 9)):=by
 refine wpL_appS hgd s x ho h hs (str t) hx (by rw [List.length_map];exact hlen) hB fun v' w' h1 h2 h3=> ?_
 have e:T.map str++ [str t]=(T++ [t]).map str:=by rw [List.map_append];rfl
 rw [e] at h1
 obtain⟨A,c,rfl⟩:=OT.form h1
 rw [List.length_append,List.length_singleton] at*
 exact hK A c w' h1 h3
theorem wpL_txs {ops:Array Oper} {rest:List Oper} {o:Oper} {a:Act} {Q:Exit→Act→World→Prop} {B2:Nat} {u:Value} {M:List (List UInt8)} (hgd:o.guard=none) (s x:Operand)
 (ho:o.op= .call {callee:= .builtin .append,args:=#[s,x],argTypes:=#[22,22]})
 (h:OT w B v T) (hs:a.eval s=v) (h2:OT w B2 u M) (hx:a.eval x=u) (hlen:T.length+M.length≤1000000000) (hB:B≤w.heap.size)
 (hK:∀ A c w',OT w' B (.slice A (T.length+M.length) c) (T++M)→Below B w w'→wpList Try.prog ops Q rest (a.put o.dst (.slice A (T.length+M.length) c)) w'):
 wpList Try.prog ops Q (o::rest) a w:=by
 obtain⟨i0,hi0,hz0,hz1,hz2⟩:=info_parts infoStr
 obtain⟨A,c,rfl⟩:=h2.form
 have hr:=OS.reads (A:=A) (c:=c) (l:=M.map str) (by unfold OT at h2;rw [List.length_map];exact h2)
 rw [List.length_map] at hr
 refine wpList_append_any w hgd s x 22 ho B 9 i0 _ 1 16 Try.underlying22 hi0 hz0 hz1 hz2 rfl (by decide) v _ _ hs h w.heap.size A M.length c _ hx hr (by
  intro u hu
  obtain⟨y,_,rfl⟩:=List.mem_map.1 hu
  rfl) (by rw [List.length_map];unfold maxLen;omega) (by rw [List.length_map];omega) hB fun v' w' h3 h4 h5=> ?_
 have h6:OT w' B v' (T++M):=by
  unfold OT OS
  have e:(M.map str).length=M.length:=List.length_map _
  rw [List.map_append,List.length_append,List.map_append,e]
  exact h3
 obtain⟨A',c',rfl⟩:=h6.form
 rw [List.length_append] at*
 exact hK A' c' w' h6 ((Below.refl _ _).grown h4 hB (own_from h))
end
def lvP (L:List (List UInt8)) (n:Nat) (T:List (List UInt8)) (up:Nat):List (List UInt8):=lv L n (T.take up)
theorem lvP_all (L:List (List UInt8)) (n:Nat) (T:List (List UInt8)):lvP L n T T.length=lv L n T:=by unfold lvP;rw [List.take_length]
theorem lvP_add {L:List (List UInt8)} {n:Nat} {T:List (List UInt8)} {up:Nat} (h:up<T.length):lvP L n T (up+1)=lvP L n T up++if (T.getD up []).length=n then lvU L (T.getD up []) else []:=by
 unfold lvP lv
 rw [List.take_succ_eq_append_getElem h,List.flatMap_append,gD _ h]
 congr 1
 exact List.flatMap_singleton _ _
def nxP (L:List (List UInt8)) (u:List UInt8) (b:Nat):List (List UInt8):=((List.range b).filter fun b=>isPre L (u++ [bt b])).map fun b=>u++ [bt b]
theorem nxP_zero (L:List (List UInt8)) (u:List UInt8):nxP L u 0= []:=rfl
theorem nxP_all (L:List (List UInt8)) (u:List UInt8):nxP L u 256=lvU L u:=by unfold nxP lvU nxB;with_reducible rfl
theorem nxP_yes {L:List (List UInt8)} {u:List UInt8} {b:Nat} (h:isPre L (u++ [bt b])=true):nxP L u (b+1)=nxP L u b++ [u++ [bt b]]:=by
 unfold nxP
 rw [List.range_succ,List.filter_append,List.map_append]
 congr 1
 rw [List.filter_cons,if_pos h];rfl
theorem nxP_no {L:List (List UInt8)} {u:List UInt8} {b:Nat} (h:isPre L (u++ [bt b])=false):nxP L u (b+1)=nxP L u b:=by
 unfold nxP
 rw [List.range_succ,List.filter_append,List.filter_cons,if_neg (by rw [h];decide)]
 rw [List.filter_nil,List.append_nil]
theorem nxP_len (L:List (List UInt8)) (u:List UInt8) (b:Nat):(nxP L u b).length≤b:=by
 unfold nxP
 rw [List.length_map]
 exact Nat.le_trans (List.length_filter_le _ _) (by rw [List.length_range];exact Nat.le_refl _)
theorem lvU_len (L:List (List UInt8)) (u:List UInt8):(lvU L u).length≤256:=by rw [←nxP_all];exact nxP_len L u 256
theorem lvP_len (L:List (List UInt8)) (n:Nat) (T:List (List UInt8)) (up:Nat) (h:up≤T.length):(lvP L n T up).length≤up*256:=by
 induction up with
 |zero=>exact Nat.le_refl _
 |succ up ih=>
  have h1:=ih (Nat.le_of_succ_le h)
  have h2:(if (T.getD up []).length=n then lvU L (T.getD up []) else []).length≤256:=by
   split
   · exact lvU_len L _
   · exact Nat.zero_le _
  rw [lvP_add h,List.length_append,Nat.succ_mul]
  exact Nat.add_le_add h1 h2
theorem isPre_hit {L:List (List UInt8)} {t w:List UInt8} (hw:w∈L) (h:t.isPrefixOf w=true):isPre L t=true:=List.any_eq_true.2 ⟨w,hw,h⟩
theorem isPre_none {L:List (List UInt8)} {t:List UInt8} (h:∀ w∈L,t.isPrefixOf w=false):isPre L t=false:=by
 unfold isPre
 rw [List.any_eq_false]
 intro w hw
 rw [h w hw];decide
end Go.Proofs.Ytmkaghpnihlhcaa
