/- Edges in memory. Walks: slices.Index and slices.Contains over edges; the comparison of edges. -/
import Derived.Test.YtmkaghpnihlhcaaEdg
import Derived.Test.YtmkaghpnihlhcaaTrB
import Derived.WalkKit
import Derived.WalkSpells
import Derived.WalkLawsBesides
import Derived.Lib.Hide
import Derived.Deep.QuietTactic
import Derived.BigQuiet
namespace Go.Proofs.Ytmkaghpnihlhcaa
open Go.RowKit
set_option linter.unusedVariables false
set_option linter.unusedSimpArgs false
def edC (x:Nat×Nat):List Value:= [.int .i64 (x.1:Int),.int .u8 (x.2:Int)]
def edF (l:List (Nat×Nat)):List Value:=l.flatMap edC
theorem edF_len (l:List (Nat×Nat)):(edF l).length=l.length*2:=by
 unfold edF
 induction l with
 |nil=>rfl
 |cons x l ih=>rw [List.flatMap_cons,List.length_append,ih,List.length_cons];show 2+_=_;omega
theorem edF_app (l m:List (Nat×Nat)):edF (l++m)=edF l++edF m:=List.flatMap_append
theorem edF_get {l:List (Nat×Nat)} {k j:Nat} (hk:k<l.length) (hj:j<2):(edF l)[k*2+j]? =(edC l[k])[j]? :=by
 have e:l=l.take k++l[k]::l.drop (k+1):=by rw [←List.drop_eq_getElem_cons hk,List.take_append_drop]
 conv=>lhs;rw [e]
 have hc:edF (l[k]::l.drop (k+1))=edC l[k]++edF (l.drop (k+1)):=List.flatMap_cons
 rw [edF_app,hc,List.getElem?_append_right (by rw [edF_len,List.length_take];omega),edF_len,List.length_take,Nat.min_eq_left (by omega),Nat.add_sub_cancel_left,List.getElem?_append_left (by show j<2;exact hj)]
theorem ed_at {w:World} {B:Nat} {A:Option Addr} {l:List (Nat×Nat)} (h:Reads w B 2 A l.length (edF l)) {k:Nat} (hk:k<l.length):∃ ad,A=some ad∧ad.block<B∧w.cell? (ad.add (k*2))=some (.int .i64 (l[k].1:Int))∧w.cell? ⟨(ad.add (k*2)).block,(ad.add (k*2)).off+1,none⟩=some (.int .u8 (l[k].2:Int)):=by
 obtain⟨ad,e,hb,hc⟩:=h.2 (by omega)
 have key:∀ j,j<2→w.cell? ((ad.add (k*2)).add j)=(edC l[k])[j]? :=fun j hj=>by
  rw [add_of_add]
  have h1:=edF_get hk hj
  have hj2:j<(edC l[k]).length:=hj
  rw [List.getElem?_eq_getElem hj2] at h1⊢
  exact hc _ _ h1
 refine⟨ad,e,hb,?_,?_⟩
 · have:=key 0 (by omega)
   rw [add_of_add] at this;exact this
 · have h1:=key 1 (by omega)
   have e1:(ad.add (k*2)).add 1=⟨(ad.add (k*2)).block,(ad.add (k*2)).off+1,none⟩:=by
    generalize ad.add (k*2)=p
    unfold Addr.add;rw [if_neg (by omega)]
   rw [←e1];exact h1
section
variable (l:List (Nat×Nat)) (A:Option Addr) (c B:Nat) (w:World) (x:Nat×Nat)
def IdxE2 (l:List (Nat×Nat)) (x:Nat×Nat) (w:World) (e:Ending) (w':World):Prop:=∃ r:Int,e= .returned (.int .i64 r)∧((r<0∧x∉l)∨(0≤r∧x∈l))∧Below w.heap.size w w'
set_option maxHeartbeats 1000000 in
theorem idxEd_any (hr:Reads w B 2 A l.length (edF l)) (hB:B≤w.heap.size) (hl:l.length≤1000000):
 Calls Try.prog 28 #[.slice A l.length c,.agg #[.int .i64 (x.1:Int),.int .u8 (x.2:Int)]] w (IdxE2 l x w):=by
 have hWB:Below w.heap.size w (w.alloc (.cells #[.int .i64 (x.1:Int),.int .u8 (x.2:Int)] 53)):=(Below.refl _ _).alloc (Nat.le_refl _) _
 have hWE:=Blk.new w 53 #[.int .i64 (x.1:Int),.int .u8 (x.2:Int)]
 obtain⟨W,hW⟩:∃ W,w.alloc (.cells #[.int .i64 (x.1:Int),.int .u8 (x.2:Int)] 53)=W:=⟨_,rfl⟩
 rw [hW] at hWB hWE
 have HWB:=Lib.hid hWB
 have HWE:=Lib.hid hWE
 have HR:=Lib.hid fun w' (hb:Below w.heap.size w w')=>hr.below (hb.mono hB)
 clear hr hWB hWE
 go_enter Try.func28,Try.ntmps28
 go_wp2_with fail
 go_loopw [8] (fun u wr=>∃ k:Nat,u= .int .i64 (k:Int)∧k≤l.length∧Hid (Below W.heap.size W wr)∧Hid (∀ j (hj:j<l.length),j<k→l[j]≠x)) (fun u _=>l.length-(intOf u).toNat)
 case atStart=>exact⟨0,rfl,by omega,Lib.hid (Below.refl _ _),fun j hj h=>absurd h (by omega)⟩
 case round=>
  obtain⟨k,rfl,hk,HB,HN⟩:=hrel
  have HBw:=Lib.hid (HWB.out.trans (HB.out.mono HWB.out.size))
  by_cases hlt:k<l.length
  · have i1:(k:Int)<(l.length:Int):=by omega
    have i0:(0:Int)≤(k:Int):=by omega
    obtain⟨ad,rfl,hb,hc0,hc1⟩:=ed_at (HR.out wr HBw.out) hlt
    have e0:wr.cell? ⟨w.heap.size,0,none⟩=some (.int .i64 (x.1:Int)):=(Blk.below HWE.out HB.out HWE.out.lt).cell 0
    have e1:wr.cell? ⟨w.heap.size,1,none⟩=some (.int .u8 (x.2:Int)):=(Blk.below HWE.out HB.out HWE.out.lt).cell 1
    by_cases hv:l[k]=x
    · have HV:Hid (x∈l):=Lib.hid (by rw [←hv];exact List.getElem_mem hlt)
      have d1:((x.1:Int)==(l[k].1:Int))=true:=by rw [hv];exact beq_iff_eq.2 rfl
      have d2:((x.2:Int)==(l[k].2:Int))=true:=by rw [hv];exact beq_iff_eq.2 rfl
      clear hv
      go_wp2_with fail
      go_quiet (fail)
      go_wp2_with fail
      go_ret
      exact⟨(k:Int),rfl,.inr ⟨by omega,HV.out⟩,below_drewN HBw.out _⟩
    · have HN2:Hid (∀ j (hj:j<l.length),j<k+1→l[j]≠x):=fun j hj h=>by
       by_cases e:j=k
       · subst e;exact hv
       · exact HN.out j hj (by omega)
      by_cases hv1:x.1=l[k].1
      · have hv2:¬x.2=l[k].2:=fun h=>hv (Prod.ext hv1.symm h.symm)
        have d1:((x.1:Int)==(l[k].1:Int))=true:=beq_iff_eq.2 (by omega)
        have d2:((x.2:Int)==(l[k].2:Int))=false:=beq_eq_false_iff_ne.2 (by omega)
        clear hv hv1 hv2
        go_wp2_with fail
        go_quiet (fail)
        go_wp2_with fail
        go_roundw
        case rel=>exact⟨k+1,by go_num,by omega,Lib.hid (below_drewN HB.out _),HN2⟩
        case measure=>simp [intOf];omega
      · have d1:((x.1:Int)==(l[k].1:Int))=false:=beq_eq_false_iff_ne.2 (by omega)
        clear hv hv1
        go_wp2_with fail
        go_quiet (fail)
        go_wp2_with fail
        go_roundw
        case rel=>exact⟨k+1,by go_num,by omega,Lib.hid (below_drewN HB.out _),HN2⟩
        case measure=>simp [intOf];omega
  · obtain rfl:k=l.length:=by omega
    clear hlt
    go_wp2_with fail
    go_ret
    exact⟨-1,rfl,.inl ⟨by omega,fun hx=>by
     obtain⟨i,hi,e⟩:=List.mem_iff_getElem.1 hx
     exact HN.out i hi hi e⟩,HBw.out⟩
theorem conEd_any (hr:Reads w B 2 A l.length (edF l)) (hB:B≤w.heap.size) (hl:l.length≤1000000):
 Calls Try.prog 21 #[.slice A l.length c,.agg #[.int .i64 (x.1:Int),.int .u8 (x.2:Int)]] w fun e w'=>e= .returned (.bool (decide (x∈l)))∧Below w.heap.size w w':=by
 have hWB:Below w.heap.size w (w.alloc (.cells #[.int .i64 (x.1:Int),.int .u8 (x.2:Int)] 53)):=(Below.refl _ _).alloc (Nat.le_refl _) _
 have hWE:=Blk.new w 53 #[.int .i64 (x.1:Int),.int .u8 (x.2:Int)]
 obtain⟨W,hW⟩:∃ W,w.alloc (.cells #[.int .i64 (x.1:Int),.int .u8 (x.2:Int)] 53)=W:=⟨_,rfl⟩
 rw [hW] at hWB hWE
 have C:=Lib.hid (idxEd_any l A c B W x (hr.below (hWB.mono hB)) (Nat.le_trans hB hWB.size) hl)
 have e0:W.cell? ⟨w.heap.size,0,none⟩=some (.int .i64 (x.1:Int)):=hWE.cell 0
 have e1:W.cell? ⟨w.heap.size,1,none⟩=some (.int .u8 (x.2:Int)):=hWE.cell 1
 have HWB:=Lib.hid hWB
 clear hr hWB hWE hl
 go_enter Try.func21,Try.ntmps21
 go_wp2_with fail
 refine C.out.mono ?_
 rintro e w1 ⟨r,rfl,hc,b1⟩
 have HB:=Lib.hid (HWB.out.trans (b1.mono HWB.out.size))
 clear b1 C
 rcases hc with⟨h1,h2⟩|⟨h1,h2⟩
 · have HT:=Lib.hid h2
   have e1:decide ((0:Int)≤r)=false:=decide_eq_false (by omega)
   clear h1 h2
   go_wp2_with fail
   go_ret
   exact⟨ret_bool (by rw [decide_eq_false HT.out]),HB.out⟩
 · have HT:=Lib.hid h2
   have e1:decide ((0:Int)≤r)=true:=decide_eq_true h1
   clear h1 h2
   go_wp2_with fail
   go_ret
   exact⟨ret_bool (by rw [decide_eq_true HT.out]),HB.out⟩
end
end Go.Proofs.Ytmkaghpnihlhcaa
