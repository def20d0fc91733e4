/- Phrases' trees plainly: the texts by levels, and how they lie. -/
import Derived.Lib.Hide
namespace Go.Proofs.Ytmkaghpnihlhcaa
set_option linter.unusedVariables false
set_option linter.unusedSimpArgs false
def isPre (L:List (List UInt8)) (t:List UInt8):Bool:=L.any fun w=>t.isPrefixOf w
def bt (b:Nat):UInt8:=b.toUInt8
def nxB (L:List (List UInt8)) (u:List UInt8):List Nat:=(List.range 256).filter fun b=>isPre L (u++ [bt b])
def lvU (L:List (List UInt8)) (u:List UInt8):List (List UInt8):=(nxB L u).map fun b=>u++ [bt b]
def lv (L:List (List UInt8)) (n:Nat) (T:List (List UInt8)):List (List UInt8):=T.flatMap fun u=>if u.length=n then lvU L u else []
def tx (L:List (List UInt8)):Nat→List (List UInt8)
 |0=> [[]]
 |n+1=>tx L n++lv L n (tx L n)
theorem bt_inj {a b:Nat} (ha:a<256) (hb:b<256) (h:bt a=bt b):a=b:=by
 have:=congrArg UInt8.toNat h
 unfold bt at this
 rw [UInt8.toNat_ofNat',UInt8.toNat_ofNat'] at this
 omega
theorem bt_of (c:UInt8):bt c.toNat=c:=UInt8.ofNat_toNat
theorem isPre_iff {L:List (List UInt8)} {t:List UInt8}:isPre L t=true↔∃ w∈L,t<+:w:=by
 unfold isPre
 rw [List.any_eq_true]
 constructor
 · rintro⟨w,hw,h⟩;exact⟨w,hw,List.isPrefixOf_iff_prefix.1 h⟩
 · rintro⟨w,hw,h⟩;exact⟨w,hw,List.isPrefixOf_iff_prefix.2 h⟩
theorem isPre_cut {L:List (List UInt8)} {u:List UInt8} {c:UInt8} (h:isPre L (u++ [c])=true):isPre L u=true:=by
 obtain⟨w,hw,h⟩:=isPre_iff.1 h
 exact isPre_iff.2 ⟨w,hw,(List.prefix_append u [c]).trans h⟩
theorem mem_nxB {L:List (List UInt8)} {u:List UInt8} {b:Nat}:b∈nxB L u↔b<256∧isPre L (u++ [bt b])=true:=by
 unfold nxB
 rw [List.mem_filter,List.mem_range]
theorem mem_lvU {L:List (List UInt8)} {u t:List UInt8}:t∈lvU L u↔∃ c:UInt8,t=u++ [c]∧isPre L t=true:=by
 unfold lvU
 rw [List.mem_map]
 constructor
 · rintro⟨b,hb,rfl⟩;exact⟨bt b,rfl,(mem_nxB.1 hb).2⟩
 · rintro⟨c,rfl,h⟩
   exact⟨c.toNat,mem_nxB.2 ⟨c.toNat_lt,by rw [bt_of];exact h⟩,by rw [bt_of]⟩
theorem mem_lv {L:List (List UInt8)} {n:Nat} {T:List (List UInt8)} {t:List UInt8}:t∈lv L n T↔∃ u∈T,u.length=n∧∃ c:UInt8,t=u++ [c]∧isPre L t=true:=by
 unfold lv
 rw [List.mem_flatMap]
 constructor
 · rintro⟨u,hu,h⟩
   by_cases e:u.length=n
   · rw [if_pos e] at h;exact⟨u,hu,e,mem_lvU.1 h⟩
   · rw [if_neg e] at h;cases h
 · rintro⟨u,hu,e,h⟩
   exact⟨u,hu,by rw [if_pos e];exact mem_lvU.2 h⟩
theorem lv_len {L:List (List UInt8)} {n:Nat} {T:List (List UInt8)} {t:List UInt8} (h:t∈lv L n T):t.length=n+1:=by
 obtain⟨u,_,e,c,rfl,_⟩:=mem_lv.1 h
 rw [List.length_append,e];rfl
theorem snoc_of {t:List UInt8} (h:t≠ []):∃ u c,t=u++ [c]:=⟨t.dropLast,t.getLast h,(List.dropLast_concat_getLast h).symm⟩
theorem mem_tx (L:List (List UInt8)):∀ (n:Nat) (t:List UInt8),t∈tx L n↔t.length≤n∧(t= []∨isPre L t=true)
 |0,t=>by
  unfold tx
  rw [List.mem_singleton]
  constructor
  · rintro rfl;exact⟨Nat.le_refl _,.inl rfl⟩
  · rintro⟨h,_⟩;exact List.eq_nil_of_length_eq_zero (by omega)
 |n+1,t=>by
  unfold tx
  rw [List.mem_append,mem_tx L n,mem_lv]
  constructor
  · rintro(⟨h1,h2⟩|⟨u,hu,e,c,rfl,h⟩)
    · exact⟨by omega,h2⟩
    · exact⟨by rw [List.length_append,e];exact Nat.le_refl _,.inr h⟩
  · rintro⟨h1,h2⟩
    by_cases hl:t.length≤n
    · exact .inl ⟨hl,h2⟩
    · have hne:t≠ []:=by rintro rfl;simp at hl
      obtain⟨u,c,rfl⟩:=snoc_of hne
      rw [List.length_append] at h1 hl
      have hlu:u.length=n:=by simp at h1 hl;omega
      rcases h2 with h2|h2
      · exact absurd h2 hne
      · exact .inr ⟨u,(mem_tx L n u).2 ⟨by omega,.inr (isPre_cut h2)⟩,hlu,c,rfl,h2⟩
theorem nodup_nxB (L:List (List UInt8)) (u:List UInt8):(nxB L u).Nodup:=List.nodup_range.sublist List.filter_sublist
theorem nodup_lvU (L:List (List UInt8)) (u:List UInt8):(lvU L u).Nodup:=by
 unfold lvU List.Nodup
 rw [List.pairwise_map]
 refine List.Pairwise.imp_of_mem ?_ (nodup_nxB L u)
 intro a b ha hb hne e
 have e2:=List.append_inj_right' e rfl
 have e3:bt a=bt b:=by injection e2
 exact hne (bt_inj (mem_nxB.1 ha).1 (mem_nxB.1 hb).1 e3)
theorem nodup_flat {α β:Type} {f:α→List β}:∀ {T:List α},T.Nodup→(∀ a∈T,(f a).Nodup)→(∀ a∈T,∀ b∈T,a≠b→∀ x,x∈f a→x∈f b→False)→(T.flatMap f).Nodup
 | [],_,_,_=>List.nodup_nil
 |a::T,h,h1,h2=>by
  rw [List.flatMap_cons]
  obtain⟨ha,hT⟩:=List.nodup_cons.1 h
  refine List.nodup_append.2 ⟨h1 a List.mem_cons_self,nodup_flat hT (fun b hb=>h1 b (List.mem_cons_of_mem _ hb)) (fun b hb c hc=>h2 b (List.mem_cons_of_mem _ hb) c (List.mem_cons_of_mem _ hc)),?_⟩
  intro x hx y hy e
  subst e
  obtain⟨b,hb,hyb⟩:=List.mem_flatMap.1 hy
  exact h2 a List.mem_cons_self b (List.mem_cons_of_mem _ hb) (fun e=>ha (by rw [e];exact hb)) x hx hyb
theorem nodup_lv {L:List (List UInt8)} {n:Nat} {T:List (List UInt8)} (h:T.Nodup):(lv L n T).Nodup:=by
 unfold lv
 refine nodup_flat h (fun u _=> ?_) fun u _ v _ hne t ht ht'=> ?_
 · split
   · exact nodup_lvU L u
   · exact List.nodup_nil
 · split at ht
   · split at ht'
     · obtain⟨c,e,_⟩:=mem_lvU.1 ht
       obtain⟨c',e',_⟩:=mem_lvU.1 ht'
       rw [e] at e'
       exact hne (List.append_inj_left' e' rfl)
     · cases ht'
   · cases ht
theorem nodup_tx (L:List (List UInt8)):∀ n,(tx L n).Nodup
 |0=>by unfold tx;exact List.nodup_cons.2 ⟨List.not_mem_nil,List.nodup_nil⟩
 |n+1=>by
  unfold tx
  refine List.nodup_append.2 ⟨nodup_tx L n,nodup_lv (nodup_tx L n),?_⟩
  intro a ha b hb e
  subst e
  have h1:=((mem_tx L n a).1 ha).1
  have h2:=lv_len hb
  omega
theorem sorted_tx (L:List (List UInt8)):∀ n,(tx L n).Pairwise (fun a b=>a.length≤b.length)
 |0=>by unfold tx;exact List.pairwise_singleton _ _
 |n+1=>by
  unfold tx
  refine List.pairwise_append.2 ⟨sorted_tx L n,?_,?_⟩
  · refine List.Pairwise.imp_of_mem (R:=fun _ _=>True) ?_ (List.pairwise_of_forall fun _ _=>trivial)
    intro a b ha hb _
    rw [lv_len ha,lv_len hb];exact Nat.le_refl _
  · intro a ha b hb
    have h1:=((mem_tx L n a).1 ha).1
    have h2:=lv_len hb
    omega
theorem tx_head (L:List (List UInt8)):∀ n,∃ T,tx L n= []::T
 |0=>⟨[],rfl⟩
 |n+1=>by
  obtain⟨T,e⟩:=tx_head L n
  exact⟨T++lv L n (tx L n),by rw [tx,e];rfl⟩
theorem tx_pos (L:List (List UInt8)) (n:Nat):0<(tx L n).length:=by
 obtain⟨T,e⟩:=tx_head L n
 rw [e];exact Nat.succ_pos _
end Go.Proofs.Ytmkaghpnihlhcaa
