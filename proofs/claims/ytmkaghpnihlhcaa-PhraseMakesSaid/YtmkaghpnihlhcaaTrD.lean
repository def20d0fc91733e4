/- Phrases' trees plainly: nodes, levels by part, ends. -/
import Derived.Test.YtmkaghpnihlhcaaTrC
namespace Go.Proofs.Ytmkaghpnihlhcaa
set_option linter.unusedVariables false
set_option linter.unusedSimpArgs false
def byI (t:List UInt8):Nat:=match t.getLast? with
 |some c=>c.toNat
 |none=>0
def upI (T:List (List UInt8)) (t:List UInt8):Nat:=ix T t.dropLast
def ndI (T:List (List UInt8)) (t:List UInt8):Nat×Nat×Nat:=(byI t,upI T t,flI T t)
def nds (T:List (List UInt8)):List (Nat×Nat×Nat):=T.map (ndI T)
theorem byI_snoc (u:List UInt8) {b:Nat} (hb:b<256):byI (u++ [bt b])=b:=by
 unfold byI
 rw [List.getLast?_concat]
 show (bt b).toNat=b
 unfold bt
 rw [UInt8.toNat_ofNat'];omega
theorem flN_app {T M:List (List UInt8)} {t:List UInt8}:∀ {m:Nat},m≤T.length→flN (T++M) t m=flN T t m
 |0,_=>rfl
 |m+1,h=>by
  unfold flN
  have e:Sf (T++M) t m↔Sf T t m:=by unfold Sf;rw [get_app (by omega)]
  by_cases hs:Sf T t m
  · rw [if_pos hs,if_pos (e.2 hs)]
  · rw [if_neg hs,if_neg fun k=>hs (e.1 k),flN_app (by omega)]
theorem flI_snoc {T:List (List UInt8)} {t s:List UInt8} (hl:s.length≤t.length):flI (T++ [t]) s=flI T s:=by
 unfold flI
 rw [List.length_append,List.length_singleton,flN,if_neg,flN_app (Nat.le_refl _)]
 intro h
 have:=h.1
 rw [get_new] at this
 omega
theorem upI_snoc {T:List (List UInt8)} {t s:List UInt8} (h:Gd T) (hs:s∈T):upI (T++ [t]) s=upI T s:=by
 unfold upI
 refine ix_app ?_
 by_cases e:s= []
 · subst e;exact hs
 · exact h.cl s hs e
theorem nds_snoc {T:List (List UInt8)} {u b:Nat} (h:Gd T) (hu:u<T.length) (hb:b<256) (hl:∀ s∈T,s.length≤(etx T (u,b)).length):nds (T++ [etx T (u,b)])=nds T++ [(b,u,flI T (etx T (u,b)))]:=by
 unfold nds
 rw [List.map_append]
 congr 1
 · refine List.map_congr_left fun s hs=> ?_
   unfold ndI
   rw [upI_snoc h hs,flI_snoc (hl s hs)]
 · rw [List.map_singleton]
   unfold ndI
   rw [flI_snoc (Nat.le_refl _)]
   congr 1
   unfold upI
   have e:(etx T (u,b)).dropLast=T.getD u []:=by unfold etx;rw [List.dropLast_concat]
   rw [e,ix_app (get_mem hu),ix_of h.nd hu]
   unfold etx
   rw [byI_snoc _ hb]
def TP (L:List (List UInt8)) (n j:Nat):List (List UInt8):=tx L n++((eL L (tx L n) n).take j).map (etx (tx L n))
theorem TP_zero (L:List (List UInt8)) (n:Nat):TP L n 0=tx L n:=by unfold TP;rw [List.take_zero,List.map_nil,List.append_nil]
theorem TP_all (L:List (List UInt8)) (n:Nat):TP L n (eL L (tx L n) n).length=tx L (n+1):=by unfold TP;rw [List.take_length,eL_tx];rfl
theorem TP_len (L:List (List UInt8)) (n j:Nat) (hj:j≤(eL L (tx L n) n).length):(TP L n j).length=(tx L n).length+j:=by
 unfold TP
 rw [List.length_append,List.length_map,List.length_take];omega
theorem TP_succ {L:List (List UInt8)} {n j:Nat} (hj:j<(eL L (tx L n) n).length):TP L n (j+1)=TP L n j++ [etx (TP L n j) (eL L (tx L n) n)[j]]:=by
 have hx:=mem_eL.1 (List.getElem_mem hj)
 have e:etx (TP L n j) (eL L (tx L n) n)[j]=etx (tx L n) (eL L (tx L n) n)[j]:=etx_app hx.1
 rw [e]
 unfold TP
 rw [List.take_succ_eq_append_getElem hj,List.map_append,List.append_assoc];rfl
theorem TP_mem {L:List (List UInt8)} {n j:Nat} {s:List UInt8} (h:s∈TP L n j):s.length≤n+1:=by
 unfold TP at h
 rcases List.mem_append.1 h with h|h
 · have:=((mem_tx L n s).1 h).1;omega
 · obtain⟨x,hx,rfl⟩:=List.mem_map.1 h
   have h1:=mem_eL.1 (List.mem_of_mem_take hx)
   unfold etx
   rw [len_snoc,h1.2.1];exact Nat.le_refl _
theorem TP_next {L:List (List UInt8)} {n j:Nat} (hj:j<(eL L (tx L n) n).length) (hg:Gd (TP L n j)):(eL L (tx L n) n)[j].1<(tx L n).length∧(eL L (tx L n) n)[j].2<256∧etx (TP L n j) (eL L (tx L n) n)[j]∉TP L n j∧(∀ s∈TP L n j,s.length≤(etx (TP L n j) (eL L (tx L n) n)[j]).length)∧(etx (TP L n j) (eL L (tx L n) n)[j]).dropLast∈TP L n j:=by
 have hx:=mem_eL.1 (List.getElem_mem hj)
 have e:etx (TP L n j) (eL L (tx L n) n)[j]=etx (tx L n) (eL L (tx L n) n)[j]:=etx_app hx.1
 have el:(etx (tx L n) (eL L (tx L n) n)[j]).length=n+1:=by unfold etx;rw [len_snoc,hx.2.1]
 refine⟨hx.1,hx.2.2.1,?_,fun s hs=>by rw [e,el];exact TP_mem hs,?_⟩
 · rw [e]
   intro k
   unfold TP at k
   rcases List.mem_append.1 k with k|k
   · have:=((mem_tx L n _).1 k).1;omega
   · obtain⟨y,hy,he⟩:=List.mem_map.1 k
     have hy1:=mem_eL.1 (List.mem_of_mem_take hy)
     have:=etx_inj (nodup_tx L n) hy1.1 hx.1 hy1.2.2.1 hx.2.2.1 he
     subst this
     obtain⟨i,hi,he⟩:=List.mem_iff_getElem.1 hy
     rw [List.length_take] at hi
     rw [List.getElem_take] at he
     have h1:=List.pairwise_iff_getElem.1 (sorted_eL L (tx L n) n) i j (by omega) hj (by omega)
     rw [he] at h1
     exact ltE.ir _ h1
 · rw [e]
   unfold etx
   rw [List.dropLast_concat]
   unfold TP
   exact List.mem_append_left _ (get_mem hx.1)
theorem Gd.TP (L:List (List UInt8)) (n:Nat):∀ j,j≤(eL L (Go.Proofs.Ytmkaghpnihlhcaa.tx L n) n).length→Gd (TP L n j)
 |0,_=>by rw [TP_zero];exact Gd.tx L n
 |j+1,h=>by
  have hg:=Gd.TP L n j (by omega)
  obtain⟨h1,h2,h3,h4,h5⟩:=TP_next (by omega:j<_) hg
  rw [TP_succ (by omega)]
  exact hg.snoc h3 h4 h5
theorem tx_succ (L:List (List UInt8)) (n:Nat):tx L (n+1)=tx L n++lv L n (tx L n):=rfl
theorem kd_word {L:List (List UInt8)} {n:Nat} {w:List UInt8} (hw:w∈L) (hn:n<w.length):kd (Go.Proofs.Ytmkaghpnihlhcaa.tx L (n+1)) ((edW (Go.Proofs.Ytmkaghpnihlhcaa.tx L n) n w).1:Int) ((edW (Go.Proofs.Ytmkaghpnihlhcaa.tx L n) n w).2:Int)=some (ix (Go.Proofs.Ytmkaghpnihlhcaa.tx L (n+1)) (w.take (n+1))):=by
 have h1:=take_in hw n
 have h2:=take_in hw (n+1)
 have e:etx (Go.Proofs.Ytmkaghpnihlhcaa.tx L (n+1)) (edW (Go.Proofs.Ytmkaghpnihlhcaa.tx L n) n w)=w.take (n+1):=by
  rw [tx_succ]
  rw [etx_app (x:=edW (Go.Proofs.Ytmkaghpnihlhcaa.tx L n) n w) (ix_lt h1)]
  unfold etx edW
  rw [ix_get h1,←take_snoc_get hn]
 have hlt:ix (Go.Proofs.Ytmkaghpnihlhcaa.tx L n) (w.take n)<(Go.Proofs.Ytmkaghpnihlhcaa.tx L (n+1)).length:=by
  rw [tx_succ]
  rw [List.length_append]
  exact Nat.lt_of_lt_of_le (ix_lt h1) (Nat.le_add_right _ _)
 unfold kd
 have e2:etx (Go.Proofs.Ytmkaghpnihlhcaa.tx L (n+1)) (((edW (Go.Proofs.Ytmkaghpnihlhcaa.tx L n) n w).1:Int).toNat,((edW (Go.Proofs.Ytmkaghpnihlhcaa.tx L n) n w).2:Int).toNat)=w.take (n+1):=e
 rw [e2,if_pos]
 exact⟨by omega,by unfold edW;dsimp only;omega,by omega,by have:=(w.getD n 0).toNat_lt;unfold edW;dsimp only;omega,h2⟩
theorem ix_stay {L:List (List UInt8)} {n:Nat} {w:List UInt8} (hw:w∈L) (hn:¬n<w.length):ix (Go.Proofs.Ytmkaghpnihlhcaa.tx L (n+1)) (w.take (n+1))=ix (Go.Proofs.Ytmkaghpnihlhcaa.tx L n) (w.take n):=by
 rw [List.take_of_length_le (by omega),List.take_of_length_le (by omega)]
 rw [tx_succ]
 have h1:=take_in hw n
 rw [List.take_of_length_le (by omega)] at h1
 exact ix_app h1
def enI (L:List (List UInt8)) (t:List UInt8):List Nat:=(List.range L.length).filter fun k=>(L.getD k []).isSuffixOf t
theorem mem_enI {L:List (List UInt8)} {t:List UInt8} {k:Nat}:k∈enI L t↔k<L.length∧L.getD k []<:+t:=by
 unfold enI
 rw [List.mem_filter,List.mem_range,List.isSuffixOf_iff_suffix]
theorem sorted_enI (L:List (List UInt8)) (t:List UInt8):(enI L t).Pairwise (· < ·):=(sorted_range _).sublist List.filter_sublist
def owI (L T:List (List UInt8)) (i:Nat):List Nat:=(List.range L.length).filter fun k=>decide (ix T (L.getD k [])=i)
theorem mem_owI {L T:List (List UInt8)} {i k:Nat}:k∈owI L T i↔k<L.length∧ix T (L.getD k [])=i:=by
 unfold owI
 rw [List.mem_filter,List.mem_range,decide_eq_true_eq]
theorem sorted_owI (L T:List (List UInt8)) (i:Nat):(owI L T i).Pairwise (· < ·):=(sorted_range _).sublist List.filter_sublist
theorem enI_nil {L:List (List UInt8)} (hL:∀ w∈L,w≠ []):enI L []= []:=by
 rw [List.eq_nil_iff_forall_not_mem]
 intro k hk
 obtain⟨h1,h2⟩:=mem_enI.1 hk
 exact hL _ (by rw [gD _ h1];exact List.getElem_mem h1) (List.suffix_nil.1 h2)
section
variable {L T:List (List UInt8)} {i:Nat}
theorem ends_law (h:Gd T) (hT:∀ w∈L,w∈T) (hL:∀ w∈L,w≠ []) (h0:0<i) (hi:i<T.length) (k:Nat):k∈enI L (T.getD i [])↔k∈enI L (T.getD (flI T (T.getD i [])) [])∨k∈owI L T i:=by
 have hne:T.getD i []≠ []:=fun e=>by
  have:=get_inj h.nd hi h.po (by rw [e,h.he])
  omega
 obtain⟨k1,k2,k3⟩:=h.fl hne
 rw [mem_enI,mem_enI,mem_owI]
 constructor
 · rintro⟨hk,hs⟩
   have hw:L.getD k []∈L:=by rw [gD _ hk];exact List.getElem_mem hk
   have hwT:=hT _ hw
   rcases Nat.lt_or_eq_of_le hs.length_le with hl|hl
   · refine .inl ⟨hk,?_⟩
     have h4:=k3 (ix T (L.getD k [])) (ix_lt hwT) (Sf.of (by rw [ix_get hwT];exact hl) (by rw [ix_get hwT];exact hs))
     have h5:=h.le h4 k1
     rw [ix_get hwT] at h5
     exact List.suffix_of_suffix_length_le hs k2.suf h5
   · refine .inr ⟨hk,?_⟩
     rw [hs.eq_of_length hl,ix_of h.nd hi]
 · rintro(⟨hk,hs⟩|⟨hk,hs⟩)
   · exact⟨hk,hs.trans k2.suf⟩
   · refine⟨hk,?_⟩
     have hw:L.getD k []∈L:=by rw [gD _ hk];exact List.getElem_mem hk
     have e:T.getD i []=L.getD k []:=by rw [←hs];exact ix_get (hT _ hw)
     rw [e]
     exact List.suffix_refl _
theorem ends_apart (h:Gd T) (hT:∀ w∈L,w∈T) (hL:∀ w∈L,w≠ []) (h0:0<i) (hi:i<T.length) {k:Nat} (h1:k∈enI L (T.getD (flI T (T.getD i [])) [])) (h2:k∈owI L T i):False:=by
 have hne:T.getD i []≠ []:=fun e=>by
  have:=get_inj h.nd hi h.po (by rw [e,h.he])
  omega
 obtain⟨k1,k2,k3⟩:=h.fl hne
 obtain⟨hk,hs⟩:=mem_enI.1 h1
 have hw:L.getD k []∈L:=by rw [gD _ hk];exact List.getElem_mem hk
 have e:T.getD i []=L.getD k []:=by rw [←(mem_owI.1 h2).2];exact ix_get (hT _ hw)
 have h4:=hs.length_le
 have h5:=k2.1
 rw [e] at h4 h5
 omega
end
theorem sort_same {zs:List Int} {m:List Int} (hn:zs.Nodup) (hm:m.Pairwise (· < ·)) (h:∀ x,x∈zs↔x∈m):zs.mergeSort (fun x y=>decide (x≤y))=m:=by
 have hp:=List.mergeSort_perm zs (fun x y=>decide (x≤y))
 have hs:(zs.mergeSort fun x y=>decide (x≤y)).Pairwise (fun a b=>(decide (a≤b))=true):=List.pairwise_mergeSort (fun a b c h1 h2=>by simp at*;omega) (fun a b=>by simp;omega) zs
 have hnd:(zs.mergeSort fun x y=>decide (x≤y)).Nodup:=hp.nodup_iff.2 hn
 refine sorted_same (R:=fun a b:Int=>a<b) (fun _ _ _=>Int.lt_trans) (fun _=>Int.lt_irrefl _) ?_ hm fun x=>hp.mem_iff.trans (h x)
 refine List.Pairwise.imp₂ (fun a b h1 h2=> ?_) hs hnd
 have h3:=of_decide_eq_true h1
 omega
end Go.Proofs.Ytmkaghpnihlhcaa
