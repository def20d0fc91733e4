/- Words that came in. Walks: phrase.check, wickref.Phrases. -/
import Derived.Test.YtmkaghpnihlhcaaNod
import Derived.Test.YtmkaghpnihlhcaaShelf
import Derived.LoopTactic
import Derived.Lib.Hide
import Derived.Deep.QuietTactic
import Derived.BigQuiet
import Derived.WalkKit
import Derived.WalkSpells
import Derived.WalkLawsBesides
namespace Go.Proofs.Ytmkaghpnihlhcaa
open Go.RowKit
set_option linter.unusedVariables false
set_option linter.unusedSimpArgs false
structure StW (w:World) (B:Nat) (A:Option Addr) (cap:Nat) (vs:List ByteArray):Prop where
 rd:Reads w B 1 A vs.length (vs.map Value.string)
 hB:B≤w.heap.size
 hc:vs.length≤cap∧cap≤9223372036854775807
theorem StW.below {w w':World} {B:Nat} {A:Option Addr} {cap:Nat} {vs:List ByteArray} (h:StW w B A cap vs) (hb:Below B w w'):StW w' B A cap vs:=⟨h.rd.below hb,Nat.le_trans h.hB hb.size,h.hc⟩
theorem StW.at_ {w:World} {B:Nat} {A:Option Addr} {cap:Nat} {vs:List ByteArray} (h:StW w B A cap vs) {k:Nat} (hk:k<vs.length):∃ ad,A=some ad∧ad.block<B∧w.cell? (ad.add k)=some (.string vs[k]):=by
 obtain⟨ad,u,e,hb,hu,hc⟩:=h.rd.at_ hk
 rw [List.getElem?_map,List.getElem?_eq_getElem hk] at hu
 injection hu with hu
 exact⟨ad,e,hb,by rw [hc,←hu]⟩
def bigS (v:ByteArray):Bool:=decide (40<v.size)
def nilS (v:ByteArray):Bool:=decide (v.size=0)
def chkW (vs:List ByteArray):Int:=if 30<vs.length∨vs.any bigS=true then 2 else if vs.length=0∨vs.any nilS=true then 1 else 0
theorem chkW_large {vs:List ByteArray} (h:30<vs.length∨vs.any bigS=true):chkW vs=2:=if_pos h
theorem chkW_arg {vs:List ByteArray} (h:¬(30<vs.length∨vs.any bigS=true)) (h2:vs.length=0∨vs.any nilS=true):chkW vs=1:=by unfold chkW;rw [if_neg h,if_pos h2]
theorem chkW_ok {vs:List ByteArray} (h:¬(30<vs.length∨vs.any bigS=true)) (h2:¬(vs.length=0∨vs.any nilS=true)):chkW vs=0:=by unfold chkW;rw [if_neg h,if_neg h2]
theorem any_hit {f:ByteArray→Bool} {vs:List ByteArray} {k:Nat} (hk:k<vs.length) (h:f vs[k]=true):vs.any f=true:=List.any_eq_true.2 ⟨_,List.getElem_mem hk,h⟩
theorem any_end {f:ByteArray→Bool} {vs:List ByteArray} (h:∀ j (hj:j<vs.length),f vs[j]=false):vs.any f=false:=by
 rw [List.any_eq_false]
 intro v hv
 obtain⟨i,hi,rfl⟩:=List.mem_iff_getElem.1 hv
 rw [h i hi];simp
theorem list_nil' {s:ByteArray}:s.toList.isEmpty=nilS s:=by
 rw [Lib.toList_data,nilS,Bool.eq_iff_iff,decide_eq_true_eq,List.isEmpty_iff]
 constructor
 · intro h;show s.data.toList.length=0;rw [h];rfl
 · intro h;exact List.eq_nil_of_length_eq_zero h
theorem check1_any (s:ByteArray) (w:World):Calls Try.prog 19 #[.string s] w fun e w'=>e= .returned (.bool (bigS s))∧w'=w:=by
 go_enter Try.func19,Try.ntmps19
 go_wp2_with fail
 go_ret
 exact⟨ret_bool (by unfold bigS;rw [Bool.eq_iff_iff,decide_eq_true_eq,decide_eq_true_eq];omega),rfl⟩
section
variable (vs:List ByteArray) (A:Option Addr) (cap B:Nat) (w:World)
def IdxS (f:ByteArray→Bool) (vs:List ByteArray) (w:World) (e:Ending) (w':World):Prop:=∃ r:Int,e= .returned (.int .i64 r)∧((r<0∧vs.any f=false)∨(0≤r∧vs.any f=true))∧w'=w
set_option maxHeartbeats 1000000 in
theorem idxS_any (h:StW w B A cap vs):
 Calls Try.prog 27 #[.slice A vs.length cap,.func (.func 19) #[] #[]] w (IdxS bigS vs w):=by
 have hc:=h.hc
 have HR:=Lib.hid h
 clear h
 go_enter Try.func27,Try.ntmps27
 go_wp2_with fail
 go_loopw [8] (fun u wr=>∃ k:Nat,u= .int .i64 (k:Int)∧k≤vs.length∧wr=w∧Hid (∀ j (hj:j<vs.length),j<k→bigS vs[j]=false)) (fun u _=>vs.length-(intOf u).toNat)
 case atStart=>exact⟨0,rfl,by omega,rfl,fun j hj h=>absurd h (by omega)⟩
 case round=>
  obtain⟨k,rfl,hk,rfl,HN⟩:=hrel
  by_cases hlt:k<vs.length
  · have i1:(k:Int)<(vs.length:Int):=by omega
    obtain⟨ad,rfl,hb,hcl⟩:=HR.out.at_ hlt
    have C:=check1_any vs[k] wr
    cases hv:bigS vs[k] with
    |true=>
     rw [hv] at C
     have C:=Lib.hid C
     have HV:Hid (vs.any bigS=true):=Lib.hid (any_hit hlt hv)
     clear hv
     go_wp2_with fail
     refine C.out.mono ?_
     rintro e w1 ⟨rfl,rfl⟩
     go_wp2_with fail
     go_ret
     exact⟨(k:Int),rfl,.inr ⟨by omega,HV.out⟩,rfl⟩
    |false=>
     rw [hv] at C
     have C:=Lib.hid C
     have HN2:Hid (∀ j (hj:j<vs.length),j<k+1→bigS vs[j]=false):=fun j hj h=>by
      by_cases e:j=k
      · subst e;exact hv
      · exact HN.out j hj (by omega)
     clear hv
     go_wp2_with fail
     refine C.out.mono ?_
     rintro e w1 ⟨rfl,rfl⟩
     go_wp2_with fail
     go_roundw
     case rel=>exact⟨k+1,by go_num,by omega,by trivial,HN2⟩
     case measure=>simp [intOf];omega
  · obtain rfl:k=vs.length:=by omega
    clear hlt
    go_wp2_with fail
    go_ret
    exact⟨-1,rfl,.inl ⟨by omega,any_end fun j hj=>HN.out j hj hj⟩,rfl⟩
theorem conS_any (h:StW w B A cap vs):
 Calls Try.prog 18 #[.slice A vs.length cap,.func (.func 19) #[] #[]] w fun e w'=>e= .returned (.bool (vs.any bigS))∧w'=w:=by
 have C:=Lib.hid (idxS_any vs A cap B w h)
 clear h
 go_enter Try.func18,Try.ntmps18
 go_wp2_with fail
 refine C.out.mono ?_
 rintro e w1 ⟨r,rfl,hc,rfl⟩
 rcases hc with⟨h1,h2⟩|⟨h1,h2⟩
 · have HT:=Lib.hid h2
   have e1:¬(0:Int)≤r:=by omega
   clear h1 h2
   go_wp2_with fail
   go_ret
   exact⟨ret_bool (by rw [HT.out];exact decide_eq_false (by omega)),rfl⟩
 · have HT:=Lib.hid h2
   clear h2
   go_wp2_with fail
   go_ret
   exact⟨ret_bool (by rw [HT.out]),rfl⟩
theorem nil_in (vs:List ByteArray):Lib.containsS vs ByteArray.empty=vs.any nilS:=by
 rw [Bool.eq_iff_iff,Lib.containsS_iff,List.any_eq_true]
 constructor
 · intro h;exact⟨_,h,rfl⟩
 · rintro⟨v,hv,hz⟩
   have:v=ByteArray.empty:=by
    unfold nilS at hz
    have hz:=of_decide_eq_true hz
    apply ByteArray.ext
    exact Array.eq_empty_of_size_eq_zero hz
   rw [←this];exact hv
set_option maxHeartbeats 1000000 in
theorem check_any (h:StW w B A cap vs):Calls Try.prog 8 #[.slice A vs.length cap] w fun e w'=>e= .returned (.int .i64 (chkW vs))∧w'=w:=by
 have hc:=h.hc
 obtain⟨R,hR⟩:∃ R,R=chkW vs:=⟨_,rfl⟩
 rw [←hR]
 have HR:=Lib.hid hR
 clear hR
 by_cases h1:30<vs.length
 · have HX:Hid (R=2):=Lib.hid (HR.out.trans (chkW_large (.inl h1)))
   have i1:decide ((30:Int)<(vs.length:Int))=true:=decide_eq_true (by omega)
   have i2:(30:Int)<(vs.length:Int):=by omega
   clear h
   go_enter Try.func8,Try.ntmps8
   go_wp2_with fail
   go_ret
   exact⟨by rw [HX.out];rfl,rfl⟩
 · have i1:decide ((30:Int)<(vs.length:Int))=false:=decide_eq_false (by omega)
   have i2:¬(30:Int)<(vs.length:Int):=by omega
   have C:=conS_any vs A cap B w h
   cases hv:vs.any bigS with
   |true=>
    rw [hv] at C
    have C:=Lib.hid C
    have HX:Hid (R=2):=Lib.hid (HR.out.trans (chkW_large (.inr hv)))
    clear h hv
    go_enter Try.func8,Try.ntmps8
    go_wp2_with fail
    refine C.out.mono ?_
    rintro e w1 ⟨rfl,rfl⟩
    go_wp2_with fail
    go_ret
    exact⟨by rw [HX.out];rfl,rfl⟩
   |false=>
    rw [hv] at C
    have C:=Lib.hid C
    have hno:¬(30<vs.length∨vs.any bigS=true):=by rw [hv];rintro(k|k);exact h1 k;cases k
    have HNO:=Lib.hid hno
    clear hno hv
    by_cases h0:vs.length=0
    · have HX:Hid (R=1):=Lib.hid (HR.out.trans (chkW_arg HNO.out (.inl h0)))
      have j1:((vs.length:Int)==0)=true:=beq_iff_eq.2 (by omega)
      clear h h0
      go_enter Try.func8,Try.ntmps8
      go_wp2_with fail
      refine C.out.mono ?_
      rintro e w1 ⟨rfl,rfl⟩
      go_wp2_with fail
      go_ret
      exact⟨by rw [HX.out];rfl,rfl⟩
    · have j1:((vs.length:Int)==0)=false:=beq_eq_false_iff_ne.2 (by omega)
      have C2:Calls Try.prog 20 #[.slice A vs.length cap,.string ByteArray.empty] w fun e w'=>e= .returned (.bool (vs.any nilS))∧w'=w:=by
       obtain⟨ad,rfl,hb,hcl⟩:=h.at_ (show 0<vs.length by omega)
       obtain⟨bb,oo,ff⟩:=ad
       have hnone:ff=none:=by
        obtain⟨ad',u,e,_,_,hcc⟩:=h.rd.at_ (show 0<vs.length by omega)
        injection e with e
        subst e
        cases ff with
        |none=>rfl
        |some f=>
         simp [Addr.add,World.cell?] at hcc
         split at hcc<;>cases hcc
       subst hnone
       have:=Try.slices_Contains_string bb oo vs.length cap vs ByteArray.empty w (Nat.le_refl _) (by omega) fun j hj=>by
        obtain⟨ad,e,_,hcl⟩:=h.at_ hj
        injection e with e
        subst e
        rw [List.getD_eq_getElem?_getD,List.getElem?_eq_getElem hj]
        show _=some (Value.string vs[j])
        rw [←hcl]
        by_cases hj0:j=0
        · subst hj0;rfl
        · simp [Addr.add,hj0]
       rw [List.take_length,nil_in] at this
       exact this
      cases hv:vs.any nilS with
      |true=>
       rw [hv] at C2
       have C2:=Lib.hid C2
       have HX:Hid (R=1):=Lib.hid (HR.out.trans (chkW_arg HNO.out (.inr hv)))
       clear h h0 hv
       go_enter Try.func8,Try.ntmps8
       go_wp2_with fail
       refine C.out.mono ?_
       rintro e w1 ⟨rfl,rfl⟩
       go_wp2_with fail
       refine C2.out.mono ?_
       rintro e w1 ⟨rfl,rfl⟩
       go_wp2_with fail
       go_ret
       exact⟨by rw [HX.out];rfl,rfl⟩
      |false=>
       rw [hv] at C2
       have C2:=Lib.hid C2
       have HX:Hid (R=0):=Lib.hid (HR.out.trans (chkW_ok HNO.out (by rw [hv];rintro(k|k);exact h0 k;cases k)))
       clear h h0 hv
       go_enter Try.func8,Try.ntmps8
       go_wp2_with fail
       refine C.out.mono ?_
       rintro e w1 ⟨rfl,rfl⟩
       go_wp2_with fail
       refine C2.out.mono ?_
       rintro e w1 ⟨rfl,rfl⟩
       go_wp2_with fail
       go_ret
       exact⟨by rw [HX.out];rfl,rfl⟩
set_option maxHeartbeats 1000000 in
theorem phrases_any (h:StW w B A cap vs):Calls Try.prog 5 #[.slice A vs.length cap] w fun e w'=>e= .returned (.int .i64 (chkW vs))∧w'=w:=by
 have hc:=h.hc
 obtain⟨R,hR⟩:∃ R,R=chkW vs:=⟨_,rfl⟩
 rw [←hR]
 have HR:=Lib.hid hR
 have HS:=Lib.hid h
 clear hR h
 by_cases h1:30<vs.length
 · have HX:Hid (R=2):=Lib.hid (HR.out.trans (chkW_large (.inl h1)))
   have i1:decide ((30:Int)<(vs.length:Int))=true:=decide_eq_true (by omega)
   have i2:(30:Int)<(vs.length:Int):=by omega
   go_enter Try.func5,Try.ntmps5
   go_wp2_with fail
   go_ret
   exact⟨by rw [HX.out];rfl,rfl⟩
 · have i1:decide ((30:Int)<(vs.length:Int))=false:=decide_eq_false (by omega)
   have i2:¬(30:Int)<(vs.length:Int):=by omega
   go_enter Try.func5,Try.ntmps5
   go_wp2_with fail
   go_loopw [3] (fun u wr=>∃ k:Nat,u= .int .i64 (k:Int)∧k≤vs.length∧wr=w∧Hid (∀ j (hj:j<vs.length),j<k→bigS vs[j]=false)) (fun u _=>vs.length-(intOf u).toNat)
   case atStart=>exact⟨0,rfl,by omega,rfl,fun j hj h=>absurd h (by omega)⟩
   case round=>
    obtain⟨k,rfl,hk,rfl,HN⟩:=hrel
    by_cases hlt:k<vs.length
    · have j1:(k:Int)<(vs.length:Int):=by omega
      have j0:(0:Int)≤(k:Int):=by omega
      obtain⟨ad,rfl,hb,hcl⟩:=HS.out.at_ hlt
      by_cases hv:40<vs[k].size
      · have d1:decide ((40:Int)<(vs[k].size:Int))=true:=decide_eq_true (by omega)
        have d2:(40:Int)<(vs[k].size:Int):=by omega
        have HX:Hid (R=2):=Lib.hid (HR.out.trans (chkW_large (.inr (any_hit hlt (decide_eq_true hv)))))
        clear hv
        go_wp2_with fail
        go_ret
        exact⟨by rw [HX.out];rfl,rfl⟩
      · have d1:decide ((40:Int)<(vs[k].size:Int))=false:=decide_eq_false (by omega)
        have d2:¬(40:Int)<(vs[k].size:Int):=by omega
        have HN2:Hid (∀ j (hj:j<vs.length),j<k+1→bigS vs[j]=false):=fun j hj h=>by
         by_cases e:j=k
         · subst e;exact decide_eq_false hv
         · exact HN.out j hj (by omega)
        clear hv
        go_wp2_with fail
        go_roundw
        case rel=>exact⟨k+1,by go_num,by omega,by trivial,HN2⟩
        case measure=>simp [intOf];omega
    · obtain rfl:k=vs.length:=by omega
      have hno:¬(30<vs.length∨vs.any bigS=true):=by
       rw [any_end fun j hj=>HN.out j hj hj]
       rintro(k|k)
       · exact h1 k
       · cases k
      have HNO:=Lib.hid hno
      clear hno hlt HN
      go_wp2_with fail
      go_loopw [4] (fun u w2=>∃ k:Nat,u= .int .i64 (k:Int)∧k≤vs.length∧w2=wr∧Hid (∀ j (hj:j<vs.length),j<k→nilS vs[j]=false)) (fun u _=>vs.length-(intOf u).toNat)
      case atStart=>exact⟨0,rfl,by omega,rfl,fun j hj h=>absurd h (by omega)⟩
      case round=>
       obtain⟨k,rfl,hk,rfl,HN⟩:=hrel
       by_cases hlt:k<vs.length
       · have j1:(k:Int)<(vs.length:Int):=by omega
         have j0:(0:Int)≤(k:Int):=by omega
         obtain⟨ad,rfl,hb,hcl⟩:=HS.out.at_ hlt
         cases hv:nilS vs[k] with
         |true=>
          have d1:vs[k].toList.isEmpty=true:=list_nil'.trans hv
          have HX:Hid (R=1):=Lib.hid (HR.out.trans (chkW_arg HNO.out (.inr (any_hit hlt hv))))
          clear hv
          go_wp2_with fail
          go_ret
          exact⟨by rw [HX.out];rfl,rfl⟩
         |false=>
          have d1:vs[k].toList.isEmpty=false:=list_nil'.trans hv
          have HN2:Hid (∀ j (hj:j<vs.length),j<k+1→nilS vs[j]=false):=fun j hj h=>by
           by_cases e:j=k
           · subst e;exact hv
           · exact HN.out j hj (by omega)
          clear hv
          go_wp2_with fail
          go_roundw
          case rel=>exact⟨k+1,by go_num,by omega,by trivial,HN2⟩
          case measure=>simp [intOf];omega
       · obtain rfl:k=vs.length:=by omega
         have HA:Hid (vs.any nilS=false):=Lib.hid (any_end fun j hj=>HN.out j hj hj)
         clear hlt HN
         by_cases h0:vs.length=0
         · have HX:Hid (R=1):=Lib.hid (HR.out.trans (chkW_arg HNO.out (.inl h0)))
           have j1:((vs.length:Int)==0)=true:=beq_iff_eq.2 (by omega)
           clear h0
           go_wp2_with fail
           go_ret
           exact⟨by rw [HX.out];rfl,rfl⟩
         · have HX:Hid (R=0):=Lib.hid (HR.out.trans (chkW_ok HNO.out (by rw [HA.out];rintro(k|k);exact h0 k;cases k)))
           have j1:((vs.length:Int)==0)=false:=beq_eq_false_iff_ne.2 (by omega)
           clear h0
           go_wp2_with fail
           go_ret
           exact⟨by rw [HX.out];rfl,rfl⟩
end
end Go.Proofs.Ytmkaghpnihlhcaa
