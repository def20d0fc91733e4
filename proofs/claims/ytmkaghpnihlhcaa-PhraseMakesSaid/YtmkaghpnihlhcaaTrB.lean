/- Phrases' trees plainly: where a text stands; the edges of a level, sorted. -/
import Derived.Test.YtmkaghpnihlhcaaTrA
namespace Go.Proofs.Ytmkaghpnihlhcaa
set_option linter.unusedVariables false
set_option linter.unusedSimpArgs false
theorem gD {α:Type} {l:List α} (d:α) {i:Nat} (h:i<l.length):l.getD i d=l[i]:=by rw [List.getD_eq_getElem?_getD,List.getElem?_eq_getElem h];rfl
def ix (T:List (List UInt8)) (t:List UInt8):Nat:=T.idxOf t
theorem ix_lt {T:List (List UInt8)} {t:List UInt8} (h:t∈T):ix T t<T.length:=List.idxOf_lt_length_of_mem h
theorem ix_get {T:List (List UInt8)} {t:List UInt8} (h:t∈T):T.getD (ix T t) []=t:=by
 have h1:=ix_lt h
 rw [gD _ h1]
 exact List.getElem_idxOf h1
theorem ix_of {T:List (List UInt8)} (hn:T.Nodup) {i:Nat} (hi:i<T.length):ix T (T.getD i [])=i:=by
 rw [gD _ hi]
 exact hn.idxOf_getElem i hi
theorem get_mem {T:List (List UInt8)} {i:Nat} (hi:i<T.length):T.getD i []∈T:=by
 rw [gD _ hi];exact List.getElem_mem hi
theorem get_inj {T:List (List UInt8)} (hn:T.Nodup) {i j:Nat} (hi:i<T.length) (hj:j<T.length) (h:T.getD i []=T.getD j []):i=j:=by
 rw [←ix_of hn hi,h,ix_of hn hj]
theorem ix_app {T M:List (List UInt8)} {t:List UInt8} (h:t∈T):ix (T++M) t=ix T t:=by
 unfold ix;rw [List.idxOf_append,if_pos h]
theorem ix_new {T:List (List UInt8)} {t:List UInt8} (h:t∉T):ix (T++ [t]) t=T.length:=by
 unfold ix;rw [List.idxOf_append,if_neg h,List.idxOf_cons_self];omega
theorem get_app {T M:List (List UInt8)} {i:Nat} (hi:i<T.length):(T++M).getD i []=T.getD i []:=by
 rw [gD _ hi,gD _ (by rw [List.length_append];omega),List.getElem_append_left hi]
theorem get_new (T:List (List UInt8)) (t:List UInt8):(T++ [t]).getD T.length []=t:=by
 rw [gD _ (by simp),List.getElem_append_right (Nat.le_refl _)];simp
def eU (L T:List (List UInt8)) (n u:Nat):List (Nat×Nat):=if (T.getD u []).length=n then (nxB L (T.getD u [])).map fun b=>(u,b) else []
def eL (L T:List (List UInt8)) (n:Nat):List (Nat×Nat):=(List.range T.length).flatMap fun u=>eU L T n u
def etx (T:List (List UInt8)) (x:Nat×Nat):List UInt8:=T.getD x.1 []++ [bt x.2]
theorem mem_eU {L T:List (List UInt8)} {n u:Nat} {x:Nat×Nat}:x∈eU L T n u↔x.1=u∧(T.getD u []).length=n∧x.2<256∧isPre L (T.getD u []++ [bt x.2])=true:=by
 unfold eU
 split
 · rename_i e
   rw [List.mem_map]
   constructor
   · rintro⟨b,hb,rfl⟩;exact⟨rfl,e,mem_nxB.1 hb⟩
   · rintro⟨h1,h2,h3⟩;exact⟨x.2,mem_nxB.2 h3,by rw [←h1]⟩
 · rename_i e
   constructor
   · intro h;cases h
   · rintro⟨_,h,_⟩;exact absurd h e
theorem mem_eL {L T:List (List UInt8)} {n:Nat} {x:Nat×Nat}:x∈eL L T n↔x.1<T.length∧(T.getD x.1 []).length=n∧x.2<256∧isPre L (etx T x)=true:=by
 unfold eL etx
 rw [List.mem_flatMap]
 constructor
 · rintro⟨u,hu,h⟩
   obtain⟨rfl,h⟩:=mem_eU.1 h
   exact⟨List.mem_range.1 hu,h⟩
 · rintro⟨h1,h⟩;exact⟨x.1,List.mem_range.2 h1,mem_eU.2 ⟨rfl,h⟩⟩
theorem flatMap_range {α:Type} (f:List UInt8→List α):∀ T:List (List UInt8),(List.range T.length).flatMap (fun u=>f (T.getD u []))=T.flatMap f
 | []=>rfl
 |t::T=>by
  rw [List.length_cons,List.range_succ_eq_map,List.flatMap_cons,List.flatMap_map,List.flatMap_cons]
  rw [←flatMap_range f T]
  rfl
theorem map_flat {α β γ:Type} (g:β→γ) (f:α→List β) (l:List α):(l.flatMap f).map g=l.flatMap fun a=>(f a).map g:=List.map_flatMap
theorem eL_tx (L T:List (List UInt8)) (n:Nat):(eL L T n).map (etx T)=lv L n T:=by
 unfold eL lv
 rw [map_flat,←flatMap_range]
 refine congrArg (fun f=>(List.range T.length).flatMap f) (funext fun u=> ?_)
 unfold eU
 split
 · unfold lvU etx
   rw [List.map_map];rfl
 · rfl
def ltE (x y:Nat×Nat):Prop:=x.1<y.1∨(x.1=y.1∧x.2<y.2)
theorem ltE.tr {x y z:Nat×Nat} (h:ltE x y) (k:ltE y z):ltE x z:=by
 unfold ltE at*
 omega
theorem ltE.ir (x:Nat×Nat):¬ltE x x:=by unfold ltE;omega
theorem ltE.tot (x y:Nat×Nat):ltE x y∨x=y∨ltE y x:=by
 obtain⟨a,b⟩:=x
 obtain⟨c,d⟩:=y
 unfold ltE
 by_cases h:a=c∧b=d
 · obtain⟨rfl,rfl⟩:=h;exact .inr (.inl rfl)
 · simp only [Prod.mk.injEq];omega
theorem sorted_range (m:Nat):(List.range m).Pairwise (· < ·):=List.pairwise_lt_range
theorem sorted_eU (L T:List (List UInt8)) (n u:Nat):(eU L T n u).Pairwise ltE:=by
 unfold eU
 split
 · rw [List.pairwise_map]
   refine List.Pairwise.imp (fun h=> ?_) ((sorted_range 256).sublist (List.filter_sublist (p:=fun b=>isPre L (T.getD u []++ [bt b]))))
   exact .inr ⟨rfl,h⟩
 · exact List.Pairwise.nil
theorem pairwise_flat {α β:Type} {R:β→β→Prop} {f:α→List β}:∀ {l:List α},(∀ a∈l,(f a).Pairwise R)→l.Pairwise (fun a b=>∀ x∈f a,∀ y∈f b,R x y)→(l.flatMap f).Pairwise R
 | [],_,_=>List.Pairwise.nil
 |a::l,h1,h2=>by
  rw [List.flatMap_cons]
  obtain⟨ha,hl⟩:=List.pairwise_cons.1 h2
  refine List.pairwise_append.2 ⟨h1 a List.mem_cons_self,pairwise_flat (fun b hb=>h1 b (List.mem_cons_of_mem _ hb)) hl,?_⟩
  intro x hx y hy
  obtain⟨b,hb,hyb⟩:=List.mem_flatMap.1 hy
  exact ha b hb x hx y hyb
theorem sorted_eL (L T:List (List UInt8)) (n:Nat):(eL L T n).Pairwise ltE:=by
 unfold eL
 refine pairwise_flat (fun u _=>sorted_eU L T n u) ((sorted_range _).imp ?_)
 intro u v h x hx y hy
 have h1:=(mem_eU.1 hx).1
 have h2:=(mem_eU.1 hy).1
 exact .inl (by omega)
theorem sorted_same {α:Type} {R:α→α→Prop} (tr:∀ a b c,R a b→R b c→R a c) (ir:∀ a,¬R a a):∀ {l m:List α},l.Pairwise R→m.Pairwise R→(∀ x,x∈l↔x∈m)→l=m
 | [],[],_,_,_=>rfl
 | [],b::m,_,_,h=>absurd ((h b).2 List.mem_cons_self) List.not_mem_nil
 |a::l,[],_,_,h=>absurd ((h a).1 List.mem_cons_self) List.not_mem_nil
 |a::l,b::m,h1,h2,h=>by
  obtain⟨ha,hl⟩:=List.pairwise_cons.1 h1
  obtain⟨hb,hm⟩:=List.pairwise_cons.1 h2
  have hab:a=b:=by
   rcases List.mem_cons.1 ((h a).1 List.mem_cons_self) with e|k1
   · exact e
   · rcases List.mem_cons.1 ((h b).2 List.mem_cons_self) with e|k2
     · exact e.symm
     · exact absurd (tr _ _ _ (ha b k2) (hb a k1)) (ir a)
  subst hab
  congr 1
  refine sorted_same tr ir hl hm fun x=> ?_
  constructor
  · intro hx
    rcases List.mem_cons.1 ((h x).1 (List.mem_cons_of_mem _ hx)) with e|k
    · subst e;exact absurd (ha x hx) (ir x)
    · exact k
  · intro hx
    rcases List.mem_cons.1 ((h x).2 (List.mem_cons_of_mem _ hx)) with e|k
    · subst e;exact absurd (hb x hx) (ir x)
    · exact k
def addE (l:List (Nat×Nat)) (x:Nat×Nat):List (Nat×Nat):=if x∈l then l else l++ [x]
def edW (T:List (List UInt8)) (n:Nat) (w:List UInt8):Nat×Nat:=(ix T (w.take n),(w.getD n 0).toNat)
def lE (T:List (List UInt8)) (n:Nat) (L:List (List UInt8)):List (Nat×Nat):=L.foldl (fun l w=>if n<w.length then addE l (edW T n w) else l) []
theorem lE_snoc (T:List (List UInt8)) (n:Nat) (L:List (List UInt8)) (w:List UInt8):lE T n (L++ [w])=if n<w.length then addE (lE T n L) (edW T n w) else lE T n L:=by
 unfold lE
 rw [List.foldl_append];rfl
theorem mem_addE {l:List (Nat×Nat)} {x y:Nat×Nat}:y∈addE l x↔y∈l∨y=x:=by
 unfold addE
 split
 · rename_i h
   exact⟨.inl,fun k=>k.elim id fun e=>by rw [e];exact h⟩
 · rw [List.mem_append,List.mem_singleton]
theorem nodup_addE {l:List (Nat×Nat)} {x:Nat×Nat} (h:l.Nodup):(addE l x).Nodup:=by
 unfold addE
 split
 · exact h
 · rename_i hx
   refine List.nodup_append.2 ⟨h,List.nodup_cons.2 ⟨List.not_mem_nil,List.nodup_nil⟩,?_⟩
   intro a ha b hb e
   rw [List.mem_singleton] at hb
   subst e;subst hb
   exact hx ha
theorem lE_gen (T:List (List UInt8)) (n:Nat):∀ (L:List (List UInt8)) (l:List (Nat×Nat)),l.Nodup→(L.foldl (fun l w=>if n<w.length then addE l (edW T n w) else l) l).Nodup∧∀ x,x∈L.foldl (fun l w=>if n<w.length then addE l (edW T n w) else l) l↔x∈l∨∃ w∈L,n<w.length∧x=edW T n w
 | [],l,h=>⟨h,fun x=>⟨.inl,fun k=>k.elim id fun⟨w,hw,_⟩=>absurd hw List.not_mem_nil⟩⟩
 |w::L,l,h=>by
  rw [List.foldl_cons]
  by_cases hw:n<w.length
  · rw [if_pos hw]
    obtain⟨h1,h2⟩:=lE_gen T n L (addE l (edW T n w)) (nodup_addE h)
    refine⟨h1,fun x=> ?_⟩
    rw [h2,mem_addE]
    constructor
    · rintro((k|k)|⟨v,hv,k⟩)
      · exact .inl k
      · exact .inr ⟨w,List.mem_cons_self,hw,k⟩
      · exact .inr ⟨v,List.mem_cons_of_mem _ hv,k⟩
    · rintro(k|⟨v,hv,k1,k2⟩)
      · exact .inl (.inl k)
      · rcases List.mem_cons.1 hv with e|hv
        · subst e;exact .inl (.inr k2)
        · exact .inr ⟨v,hv,k1,k2⟩
  · rw [if_neg hw]
    obtain⟨h1,h2⟩:=lE_gen T n L l h
    refine⟨h1,fun x=> ?_⟩
    rw [h2]
    constructor
    · rintro(k|⟨v,hv,k⟩)
      · exact .inl k
      · exact .inr ⟨v,List.mem_cons_of_mem _ hv,k⟩
    · rintro(k|⟨v,hv,k1,k2⟩)
      · exact .inl k
      · rcases List.mem_cons.1 hv with e|hv
        · subst e;exact absurd k1 hw
        · exact .inr ⟨v,hv,k1,k2⟩
theorem nodup_lE (T:List (List UInt8)) (n:Nat) (L:List (List UInt8)):(lE T n L).Nodup:=(lE_gen T n L [] List.nodup_nil).1
theorem mem_lE {T:List (List UInt8)} {n:Nat} {L:List (List UInt8)} {x:Nat×Nat}:x∈lE T n L↔∃ w∈L,n<w.length∧x=edW T n w:=by
 have h:=(lE_gen T n L [] List.nodup_nil).2 x
 unfold lE
 rw [h]
 exact⟨fun k=>k.elim (fun k=>absurd k List.not_mem_nil) id,.inr⟩
theorem take_snoc_get {w:List UInt8} {n:Nat} (h:n<w.length):w.take (n+1)=w.take n++ [bt (w.getD n 0).toNat]:=by
 rw [bt_of,List.take_add_one,List.getElem?_eq_getElem h,gD _ h];rfl
theorem take_in {L:List (List UInt8)} {w:List UInt8} (hw:w∈L) (n:Nat):w.take n∈tx L n:=(mem_tx L n _).2 ⟨by rw [List.length_take];exact Nat.min_le_left _ _,.inr (isPre_iff.2 ⟨w,hw,List.take_prefix n w⟩)⟩
theorem lE_eL (L:List (List UInt8)) (n:Nat) (x:Nat×Nat):x∈lE (tx L n) n L↔x∈eL L (tx L n) n:=by
 rw [mem_lE,mem_eL]
 constructor
 · rintro⟨w,hw,hn,rfl⟩
   have hin:=take_in hw n
   have hg:=ix_get hin
   refine⟨ix_lt hin,?_,(w.getD n 0).toNat_lt,?_⟩
   · show ((tx L n).getD (ix (tx L n) (w.take n)) []).length=n
     rw [hg,List.length_take];omega
   · show isPre L ((tx L n).getD (ix (tx L n) (w.take n)) []++ [bt (w.getD n 0).toNat])=true
     rw [hg,←take_snoc_get hn]
     exact isPre_iff.2 ⟨w,hw,List.take_prefix _ w⟩
 · rintro⟨h1,h2,h3,h4⟩
   obtain⟨w,hw,hp⟩:=isPre_iff.1 h4
   unfold etx at hp
   obtain⟨u,b⟩:=x
   dsimp only at h1 h2 h3 hp
   have hlen:n<w.length:=by
    have:=hp.length_le
    rw [List.length_append,h2] at this
    exact this
   have hpre:(tx L n).getD u []=w.take n:=by
    have h5:(tx L n).getD u []<+:w:=(List.prefix_append _ _).trans hp
    have h6:=List.prefix_iff_eq_take.1 h5
    rw [h2] at h6
    exact h6
   have hb:bt b=w.getD n 0:=by
    have h6:=List.prefix_iff_eq_take.1 hp
    rw [List.length_append,h2] at h6
    have h7:=take_snoc_get hlen
    rw [show n+ [bt b].length=n+1 from rfl,h7,hpre] at h6
    have h8:=List.append_inj_right' h6 rfl
    injection h8 with h8
    rw [h8,bt_of]
   refine⟨w,hw,hlen,?_⟩
   unfold edW
   rw [←hpre,ix_of (nodup_tx L n) h1,←hb]
   congr 1
   unfold bt
   rw [UInt8.toNat_ofNat'];omega
theorem level_sorted {L:List (List UInt8)} {n:Nat} {l:List (Nat×Nat)} (hm:∀ x,x∈l↔x∈lE (tx L n) n L) (hs:l.Pairwise ltE):l=eL L (tx L n) n:=
 sorted_same (R:=ltE) (fun _ _ _=>ltE.tr) ltE.ir hs (sorted_eL L _ n) fun x=>(hm x).trans (lE_eL L n x)
end Go.Proofs.Ytmkaghpnihlhcaa
