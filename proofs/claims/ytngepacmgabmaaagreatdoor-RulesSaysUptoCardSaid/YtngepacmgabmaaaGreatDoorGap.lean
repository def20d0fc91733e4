/- Edges sorted: slices.SortFunc by its con; Nodes of a tree of phrases: cells; plain .. -/
import Derived.Test.YtngepacmgabmaaaGreatDoorGan
import Derived.Test.YtngepacmgabmaaaGreatDoorGao
namespace Go.Proofs.YtngepacmgabmaaaGreatDoor
open Go.RowKit
set_option linter.unusedVariables false
set_option linter.unusedSimpArgs false
section
open Go.Shelf Go.Lib Go.Sort
abbrev EdT:=Fin 1024×Fin 256
def edE (x:EdT):Nat×Nat:=(x.1.val,x.2.val)
def Xs6 (x:Nat×Nat):EdT:=(Fin.ofNat 1024 x.1,Fin.ofNat 256 x.2)
theorem qa0 {x:Nat×Nat} (h1:x.1<1024) (h2:x.2<256):edE (Xs6 x)=x:=by
 unfold edE Xs6;refine Prod.ext ?_ ?_
 . show x.1%1024=x.1;omega
 . show x.2%256=x.2;omega
theorem qT9 {x y:EdT} (h:edE x=edE y):x=y:=by
 unfold edE at h;refine Prod.ext (Fin.ext ?_) (Fin.ext ?_)
 . exact congrArg Prod.fst h
 . exact congrArg Prod.snd h
def yC0 (x:EdT):List Value:=edC (edE x)
def JX5 (x y:EdT):Int:=((x.1.val:Int)-(y.1.val:Int))*256+(x.2.val:Int)-(y.2.val:Int)
theorem edLt (x y:EdT):ltOf JX5 x y=true<->ltE (edE x) (edE y):=by
 unfold ltOf JX5 ltE edE;rw [decide_eq_true_eq];have h1:=x.2.isLt;have h2:=y.2.isLt;omega
theorem QP2 (x y:EdT):ltOf JX5 x y=false<->¬ltE (edE x) (edE y):=by
 rw [<-edLt,Bool.not_eq_true]
theorem x12:SWO (ltOf JX5) where
 irrefl x:=(QP2 x x).2 (ltE.ir _)
 trans x y z h1 h2:=(edLt x z).2 (((edLt x y).1 h1).tr ((edLt y z).1 h2))
 ntrans x y z h1 h2:=by
  rw [QP2] at*;unfold ltE at*;omega
set_option maxHeartbeats 1000000 in
theorem ZN6 (x y:EdT) (W:World):Calls Tryz.prog 166 #[.agg #[.int .i64 (x.1.val:Int),.int .u8 (x.2.val:Int)],.agg #[.int .i64 (y.1.val:Int),.int .u8 (y.2.val:Int)]] W λ e w'=>e= .returned (.int .i64 (JX5 x y))/\∃ q os',w'=grow (W.drewN q) os':=by
 have e1:IntKind.i64.wrap ((x.1.val:Int)-(y.1.val:Int))=(x.1.val:Int)-(y.1.val:Int):=IntWalk.i64_in _ (by omega);have e2:IntKind.i64.wrap (((x.1.val:Int)-(y.1.val:Int))*256)=((x.1.val:Int)-(y.1.val:Int))*256:=IntWalk.i64_in _ (by omega);have e3:IntKind.i64.wrap ((x.2.val:Int))=(x.2.val:Int):=IntWalk.i64_in _ (by omega);have e4:IntKind.i64.wrap ((y.2.val:Int))=(y.2.val:Int):=IntWalk.i64_in _ (by omega);have e5:IntKind.i64.wrap (((x.1.val:Int)-(y.1.val:Int))*256+(x.2.val:Int))=((x.1.val:Int)-(y.1.val:Int))*256+(x.2.val:Int):=IntWalk.i64_in _ (by omega);have e6:IntKind.i64.wrap (((x.1.val:Int)-(y.1.val:Int))*256+(x.2.val:Int)-(y.2.val:Int))=JX5 x y:=IntWalk.i64_in _ (by omega);obtain⟨R,hR⟩:∃ R,R=JX5 x y:=⟨_,rfl⟩;rw [<-hR] at e6⊢;clear hR;go_enter Tryz.func166,Tryz.ntmps166;go_wp2_with fail;go_ret;exact⟨rfl,0,_,by rw [alloc_eq_grow,alloc_eq_grow,grow_grow];rfl⟩
theorem Jk2 (d:Array EdT) (j:Nat) (hj:j<d.size*2):(flatK yC0 2 d)[j]! =(edF (d.toList.map edE))[j]! :=by
 rw [get_flatK _ _ _ _ hj];have hk:j/2<d.size:=by omega
 have hk2:j/2<(d.toList.map edE).length:=by simpa using hk
 have h1:=YS3 hk2 (show j%2<2 by omega);rw [show j/2*2+j%2=j by omega] at h1
 have h2:(d.toList.map edE)[j/2]=edE d[j/2]! :=by
  rw [List.getElem_map,getElem!_pos d (j/2) hk];rfl
 rw [h2] at h1;have h3:j%2<(edC (edE d[j/2]!)).length:=(show j%2<2 by omega);rw [List.getElem!_eq_getElem?_getD,List.getElem!_eq_getElem?_getD,h1];rfl
theorem X32 {l:List (Nat×Nat)} {j:Nat} (h:j<l.length*2):(edF l)[j]? =some (edF l)[j]! :=by
 have:j<(edF l).length:=by rw [ZG1];exact h
 rw [List.getElem?_eq_getElem this,getElem!_pos (edF l) j this]
theorem J01 {w:World} {g:Nat} (hg:g<w.heap.size) (n:Nat) (d:Array EdT) (os:Array Obj):w.grownBy (sortWorldK yC0 2 w g 0 n d os) (some g):=by
 refine⟨rfl,rfl,rfl,size_sortWorldK_c yC0 2 w g 0 n d os,λ k hk hne=> ?_⟩;unfold sortWorldK;have h1:k<(putRowK yC0 2 (Sort.ahead w n) g 0 d).heap.size:=by rw [size_putRowK];exact hk
 rw [heap_grow_old _ _ h1];unfold putRowK putRow mapBlock;have hkg:g≠k:=λ e=>hne (by rw [e])
 simp [Array.getElem?_modify,hkg]
theorem kR6 (w:World) (g c:Nat) (l:List (Nat×Nat)) (hb:∀ x∈l,x.1<1024/\x.2<256) (hl:l.length<=1000) (hn:l.Nodup) (hH:∀ j,j<l.length*2->w.cell? ⟨g,j,none⟩=(edF l)[j]? /\w.frozen? ⟨g,j,none⟩=false) (hg:g<w.heap.size):
 Calls Tryz.prog 165 #[.slice (some ⟨g,0,none⟩) l.length c,.func (.func 166) #[] #[]] w λ e w'=>e= .returned (.tuple #[])/\
  ∃ l':List (Nat×Nat),(∀ x,x∈l'<->x∈l)/\l'.Pairwise ltE/\l'.length=l.length/\Reads w' w'.heap.size 2 (some ⟨g,0,none⟩) l'.length (edF l')/\w.grownBy w' (some g):=by
 let d:Array EdT:=(l.map Xs6).toArray
 have hds:d.size=l.length:=by simp [d]
 have hdl:d.toList.map edE=l:=by
  show (l.map Xs6).map edE=l;rw [List.map_map];have:∀ x∈l,(edE∘Xs6) x=x:=λ x hx=>qa0 (hb x hx).1 (hb x hx).2
  exact(List.map_congr_left this).trans (List.map_id _)
 have hHK:HoldsK yC0 2 w g 0 d:=by
  intro j hj;rw [size_flatK] at hj;have hj2:j<l.length*2:=by rw [hds] at hj;exact hj
  rw [Nat.zero_add];refine⟨?_,(hH j hj2).2⟩;rw [(hH j hj2).1,X32 hj2,id,Jk2 d j hj,hdl]
 have eg:∀ args w,(callFunc 166 args).run Tryz.prog w= .ok (.enter 166 args) w:=enters_of Tryz.func166 (by kernel_rfl) rfl;have hcmp:CmpLays Tryz.prog 166 #[] yC0 2 JX5 g 0 d.size w:=λ m os dk _ x y=>ZN6 x y _
 have hT:∀ x y,(ltOf JX5) x y=false->(ltOf JX5) y x=false->x=y:=λ x y h1 h2=>by
  rw [QP2] at h1 h2;rcases ltE.tot (edE x) (edE y) with h|h|h
  . exact absurd h h1
  . exact qT9 h
  . exact absurd h h2
 have hcon:=AnyQ.slices_SortFunc_total Tryz.sortEd 2 Tryz.isAgg210 Tryz.sizeOf210 yC0 (λ _=>rfl) (λ x v hv=>by simp [yC0,edC] at hv;rcases hv with rfl|rfl<;>rfl) JX5 x12 166 #[] g 0 c d w eg hcmp hHK hg (by rw [hds];omega) hT;change Calls Tryz.prog 165 _ _ _ at hcon;rw [hds] at hcon;refine hcon.mono ?_;rintro e w' ⟨rfl,n,os,rfl⟩;obtain⟨m,hm⟩:∃ m,m=d.toList.mergeSort λ x y=> !(ltOf JX5) y x:=⟨_,rfl⟩
 rw [<-hm];have hp:m.Perm d.toList:=by rw [hm];exact List.mergeSort_perm _ _
 have hlen:m.length=l.length:=by rw [hp.length_eq];simp [d]
 have hs:m.Pairwise (λ a b=>(!(ltOf JX5) b a)=true):=by
  rw [hm];refine List.pairwise_mergeSort (λ a b c h1 h2=> ?_) (λ a b=> ?_) _
  . rw [Bool.not_eq_true'] at*;exact x12.ntrans _ _ _ h2 h1
  . rw [Bool.or_eq_true,Bool.not_eq_true',Bool.not_eq_true',QP2,QP2];unfold ltE;omega
 have hnd:m.Nodup:=by
  refine hp.nodup_iff.2 ?_;have:(d.toList.map edE).Nodup:=by rw [hdl];exact hn
  exact List.Pairwise.of_map edE (λ a b h e=>h (congrArg edE e)) this
 have hmem:∀ x,x∈m.map edE<->x∈l:=λ x=>by
  rw [(hp.map edE).mem_iff,hdl]
 have hsrt:(m.map edE).Pairwise ltE:=by
  rw [List.pairwise_map];refine List.Pairwise.imp₂ (λ a b h1 h2=> ?_) hs hnd;rw [Bool.not_eq_true',QP2] at h1;rcases ltE.tot (edE a) (edE b) with h|h|h
  . exact h
  . exact absurd (qT9 h) h2
  . exact absurd h h1
 have hgb:=J01 hg n m.toArray os;have hHK2:HoldsK yC0 2 (sortWorldK yC0 2 w g 0 n m.toArray os) g 0 m.toArray:=holdsK_sortWorldK yC0 2 w g 0 n d m.toArray os hg hHK (by rw [hds];simp [hlen]);refine⟨rfl,m.map edE,hmem,hsrt,by rw [List.length_map];exact hlen,⟨by rw [ZG1],λ hpos=>⟨_,rfl,Nat.lt_of_lt_of_le hg hgb.size,λ j u hj=> ?_⟩⟩,hgb⟩
 have hjl:j<(m.map edE).length*2:=by
  have:=(List.getElem?_eq_some_iff.1 hj).1;rw [ZG1] at this;exact this
 have hjm:j<m.toArray.size*2:=by rw [List.length_map] at hjl;simpa using hjl
 have h1:=(hHK2 j (by rw [size_flatK];exact hjm)).1;rw [Nat.zero_add,id,Jk2 _ _ hjm] at h1
 have e1:(⟨g,0,none⟩:Addr).add j=⟨g,j,none⟩:=by
  by_cases h:j=0
  . subst h;rfl
  . simp [Addr.add,h]
 rw [e1,h1];have h2:=X32 hjl;rw [hj] at h2;exact h2.symm
end

structure StW (w:World) (B:Nat) (A:Option Addr) (cap:Nat) (vs:List ByteArray):Prop where
 rd:Reads w B 1 A vs.length (vs.map Value.string)
 hB:B<=w.heap.size
 hc:vs.length<=cap/\cap<=9223372036854775807
theorem StW.below {w w':World} {B:Nat} {A:Option Addr} {cap:Nat} {vs:List ByteArray} (h:StW w B A cap vs) (hb:Below B w w'):StW w' B A cap vs:=⟨h.rd.below hb,Nat.le_trans h.hB hb.size,h.hc⟩
theorem StW.at_ {w:World} {B:Nat} {A:Option Addr} {cap:Nat} {vs:List ByteArray} (h:StW w B A cap vs) {k:Nat} (hk:k<vs.length):∃ ad,A=some ad/\ad.block<B/\w.cell? (ad.add k)=some (.string vs[k]):=by
 obtain⟨ad,u,e,hb,hu,hc⟩:=h.rd.at_ hk;rw [List.getElem?_map,List.getElem?_eq_getElem hk] at hu;injection hu with hu;exact⟨ad,e,hb,by rw [hc,<-hu]⟩
def yZ9 (v:ByteArray):Bool:=decide (40<v.size)
def Jd3 (v:ByteArray):Bool:=decide (v.size=0)
def yR7 (vs:List ByteArray):Int:=if 30<vs.length\/vs.any yZ9=true then 2 else if vs.length=0\/vs.any Jd3=true then 1 else 0
theorem Kc8 {vs:List ByteArray} (h:30<vs.length\/vs.any yZ9=true):yR7 vs=2:=if_pos h
theorem QY4 {vs:List ByteArray} (h:¬(30<vs.length\/vs.any yZ9=true)) (h2:vs.length=0\/vs.any Jd3=true):yR7 vs=1:=by unfold yR7;rw [if_neg h,if_pos h2]
theorem QT0 {vs:List ByteArray} (h:¬(30<vs.length\/vs.any yZ9=true)) (h2:¬(vs.length=0\/vs.any Jd3=true)):yR7 vs=0:=by unfold yR7;rw [if_neg h,if_neg h2]
theorem zw5 {f:ByteArray->Bool} {vs:List ByteArray} {k:Nat} (hk:k<vs.length) (h:f vs[k]=true):vs.any f=true:=List.any_eq_true.2 ⟨_,List.getElem_mem hk,h⟩
theorem ZT3 {f:ByteArray->Bool} {vs:List ByteArray} (h:∀ j (hj:j<vs.length),f vs[j]=false):vs.any f=false:=by
 rw [List.any_eq_false];intro v hv;obtain⟨i,hi,rfl⟩:=List.mem_iff_getElem.1 hv;rw [h i hi];simp
theorem kR1 {s:ByteArray}:s.toList.isEmpty=Jd3 s:=by
 rw [Lib.toList_data,Jd3,Bool.eq_iff_iff,decide_eq_true_eq,List.isEmpty_iff];constructor
 . intro h;show s.data.toList.length=0;rw [h];rfl
 . intro h;exact List.eq_nil_of_length_eq_zero h
theorem kt8 (s:ByteArray) (w:World):Calls Tryz.prog 162 #[.string s] w λ e w'=>e= .returned (.bool (yZ9 s))/\w'=w:=by
 go_enter Tryz.func162,Tryz.ntmps162;go_wp2_with fail;go_ret;exact⟨Kh9 (by unfold yZ9;rw [Bool.eq_iff_iff,decide_eq_true_eq,decide_eq_true_eq];omega),rfl⟩
section
variable (vs:List ByteArray) (A:Option Addr) (cap B:Nat) (w:World)
def IdxS (f:ByteArray->Bool) (vs:List ByteArray) (w:World) (e:Ending) (w':World):Prop:=∃ r:Int,e= .returned (.int .i64 r)/\((r<0/\vs.any f=false)\/(0<=r/\vs.any f=true))/\w'=w
set_option maxHeartbeats 1000000 in
theorem KA0 (h:StW w B A cap vs):
 Calls Tryz.prog 178 #[.slice A vs.length cap,.func (.func 162) #[] #[]] w (IdxS yZ9 vs w):=by
 have hc:=h.hc;have HR:=qh h;clear h;go_enter Tryz.func178,Tryz.ntmps178;go_wp2_with fail;go_loopw [8] (λ u wr=>∃ k:Nat,u= .int .i64 (k:Int)/\k<=vs.length/\wr=w/\Hid (∀ j (hj:j<vs.length),j<k->yZ9 vs[j]=false)) (λ u _=>vs.length-(intOf u).toNat)
 case atStart=>exact⟨0,rfl,by omega,rfl,λ j hj h=>absurd h (by omega)⟩
 case round=>
  obtain⟨k,rfl,hk,rfl,HN⟩:=hrel;by_cases hlt:k<vs.length
  . have i1:(k:Int)<(vs.length:Int):=(by omega);obtain⟨ad,rfl,hb,hcl⟩:=HR.out.at_ hlt;have C:=kt8 vs[k] wr;cases hv:yZ9 vs[k] with
    |true=>
     rw [hv] at C;have C:=qh C;have HV:Hid (vs.any yZ9=true):=qh (zw5 hlt hv);clear hv;go_wp2_with fail;refine C.out.mono ?_;rintro e w1 ⟨rfl,rfl⟩;go_wp2_with fail;go_ret;exact⟨(k:Int),rfl,.inr ⟨by omega,HV.out⟩,rfl⟩
    |false=>
     rw [hv] at C;have C:=qh C
     have HN2:Hid (∀ j (hj:j<vs.length),j<k+1->yZ9 vs[j]=false):=λ j hj h=>by
      by_cases e:j=k
      . subst e;exact hv
      . exact HN.out j hj (by omega)
     clear hv;go_wp2_with fail;refine C.out.mono ?_;rintro e w1 ⟨rfl,rfl⟩;go_wp2_with fail;go_roundw
     case rel=>exact⟨k+1,by go_num,by omega,by trivial,HN2⟩
     case measure=>simp [intOf];omega
  . obtain rfl:k=vs.length:=(by omega);clear hlt;go_wp2_with fail;go_ret;exact⟨-1,rfl,.inl ⟨by omega,ZT3 λ j hj=>HN.out j hj hj⟩,rfl⟩
theorem JB1 (h:StW w B A cap vs):
 Calls Tryz.prog 161 #[.slice A vs.length cap,.func (.func 162) #[] #[]] w λ e w'=>e= .returned (.bool (vs.any yZ9))/\w'=w:=by
 have C:=qh (KA0 vs A cap B w h);clear h;go_enter Tryz.func161,Tryz.ntmps161;go_wp2_with fail;refine C.out.mono ?_;rintro e w1 ⟨r,rfl,hc,rfl⟩;rcases hc with⟨h1,h2⟩|⟨h1,h2⟩
 . have HT:=qh h2;have e1:¬(0:Int)<=r:=(by omega);clear h1 h2;go_wp2_with fail;go_ret;exact⟨Kh9 (by rw [HT.out];exact decide_eq_false (by omega)),rfl⟩
 . have HT:=qh h2;clear h2;go_wp2_with fail;go_ret;exact⟨Kh9 (by rw [HT.out]),rfl⟩
theorem yk6 (vs:List ByteArray):Lib.containsS vs ByteArray.empty=vs.any Jd3:=by
 rw [Bool.eq_iff_iff,Lib.containsS_iff,List.any_eq_true];constructor
 . intro h;exact⟨_,h,rfl⟩
 . rintro⟨v,hv,hz⟩
   have:v=ByteArray.empty:=by
    unfold Jd3 at hz;have hz:=of_decide_eq_true hz;apply ByteArray.ext;exact Array.eq_empty_of_size_eq_zero hz
   rw [<-this];exact hv
set_option maxHeartbeats 1000000 in
theorem jW9 (h:StW w B A cap vs):Calls Tryz.prog 137 #[.slice A vs.length cap] w λ e w'=>e= .returned (.int .i64 (yR7 vs))/\w'=w:=by
 have hc:=h.hc;obtain⟨R,hR⟩:∃ R,R=yR7 vs:=⟨_,rfl⟩;rw [<-hR];have HR:=qh hR;clear hR;by_cases h1:30<vs.length
 . have HX:Hid (R=2):=qh (HR.out.trans (Kc8 (.inl h1)));have i1:decide ((30:Int)<(vs.length:Int))=true:=decide_eq_true (by omega);have i2:(30:Int)<(vs.length:Int):=(by omega);clear h;go_enter Tryz.func137,Tryz.ntmps137;go_wp2_with fail;go_ret;exact⟨by rw [HX.out];rfl,rfl⟩
 . have i1:decide ((30:Int)<(vs.length:Int))=false:=decide_eq_false (by omega);have i2:¬(30:Int)<(vs.length:Int):=(by omega);have C:=JB1 vs A cap B w h;cases hv:vs.any yZ9 with
   |true=>
    rw [hv] at C;have C:=qh C;have HX:Hid (R=2):=qh (HR.out.trans (Kc8 (.inr hv)));clear h hv;go_enter Tryz.func137,Tryz.ntmps137;go_wp2_with fail;refine C.out.mono ?_;rintro e w1 ⟨rfl,rfl⟩;go_wp2_with fail;go_ret;exact⟨by rw [HX.out];rfl,rfl⟩
   |false=>
    rw [hv] at C;have C:=qh C;have hno:¬(30<vs.length\/vs.any yZ9=true):=(by rw [hv];rintro(k|k);exact h1 k;cases k);have HNO:=qh hno;clear hno hv;by_cases h0:vs.length=0
    . have HX:Hid (R=1):=qh (HR.out.trans (QY4 HNO.out (.inl h0)));have j1:((vs.length:Int)==0)=true:=beq_iff_eq.2 (by omega);clear h h0;go_enter Tryz.func137,Tryz.ntmps137;go_wp2_with fail;refine C.out.mono ?_;rintro e w1 ⟨rfl,rfl⟩;go_wp2_with fail;go_ret;exact⟨by rw [HX.out];rfl,rfl⟩
    . have j1:((vs.length:Int)==0)=false:=beq_eq_false_iff_ne.2 (by omega)
      have C2:Calls Tryz.prog 163 #[.slice A vs.length cap,.string ByteArray.empty] w λ e w'=>e= .returned (.bool (vs.any Jd3))/\w'=w:=by
       obtain⟨ad,rfl,hb,hcl⟩:=h.at_ (show 0<vs.length by omega);obtain⟨bb,oo,ff⟩:=ad
       have hnone:ff=none:=by
        obtain⟨ad',u,e,_,_,hcc⟩:=h.rd.at_ (show 0<vs.length by omega);injection e with e;subst e;cases ff with
        |none=>rfl
        |some f=>
         simp [Addr.add,World.cell?] at hcc;split at hcc<;>cases hcc
       subst hnone
       have:=Tryz.slices_Contains_string bb oo vs.length cap vs ByteArray.empty w (Nat.le_refl _) (by omega) λ j hj=>by
        obtain⟨ad,e,_,hcl⟩:=h.at_ hj;injection e with e;subst e;rw [List.getD_eq_getElem?_getD,List.getElem?_eq_getElem hj];show _=some (Value.string vs[j]);rw [<-hcl];by_cases hj0:j=0
        . subst hj0;rfl
        . simp [Addr.add,hj0]
       rw [List.take_length,yk6] at this;exact this
      cases hv:vs.any Jd3
      focus
       rw [hv] at C2;have C2:=qh C2;have HX:Hid (R=0):=qh (HR.out.trans (QT0 HNO.out (by rw [hv];rintro(k|k);exact h0 k;cases k)))
      rotate_left
      focus
       rw [hv] at C2;have C2:=qh C2;have HX:Hid (R=1):=qh (HR.out.trans (QY4 HNO.out (.inr hv)))
      all_goals
       clear h h0 hv;go_enter Tryz.func137,Tryz.ntmps137;go_wp2_with fail;refine C.out.mono ?_;rintro e w1 ⟨rfl,rfl⟩;go_wp2_with fail;refine C2.out.mono ?_;rintro e w1 ⟨rfl,rfl⟩;go_wp2_with fail;go_ret;exact⟨by rw [HX.out];rfl,rfl⟩
set_option maxHeartbeats 1000000 in
theorem Kx9 (h:StW w B A cap vs):Calls Tryz.prog 91 #[.slice A vs.length cap] w λ e w'=>e= .returned (.int .i64 (yR7 vs))/\w'=w:=by
 have hc:=h.hc;obtain⟨R,hR⟩:∃ R,R=yR7 vs:=⟨_,rfl⟩;rw [<-hR];have HR:=qh hR;have HS:=qh h;clear hR h;by_cases h1:30<vs.length
 . have HX:Hid (R=2):=qh (HR.out.trans (Kc8 (.inl h1)));have i1:decide ((30:Int)<(vs.length:Int))=true:=decide_eq_true (by omega);have i2:(30:Int)<(vs.length:Int):=(by omega);go_enter Tryz.func91,Tryz.ntmps91;go_wp2_with fail;go_ret;exact⟨by rw [HX.out];rfl,rfl⟩
 . have i1:decide ((30:Int)<(vs.length:Int))=false:=decide_eq_false (by omega);have i2:¬(30:Int)<(vs.length:Int):=(by omega);go_enter Tryz.func91,Tryz.ntmps91;go_wp2_with fail;go_loopw [3] (λ u wr=>∃ k:Nat,u= .int .i64 (k:Int)/\k<=vs.length/\wr=w/\Hid (∀ j (hj:j<vs.length),j<k->yZ9 vs[j]=false)) (λ u _=>vs.length-(intOf u).toNat)
   case atStart=>exact⟨0,rfl,by omega,rfl,λ j hj h=>absurd h (by omega)⟩
   case round=>
    obtain⟨k,rfl,hk,rfl,HN⟩:=hrel;by_cases hlt:k<vs.length
    . have j1:(k:Int)<(vs.length:Int):=(by omega);have j0:(0:Int)<=(k:Int):=(by omega);obtain⟨ad,rfl,hb,hcl⟩:=HS.out.at_ hlt;by_cases hv:40<vs[k].size
      . have d1:decide ((40:Int)<(vs[k].size:Int))=true:=decide_eq_true (by omega);have d2:(40:Int)<(vs[k].size:Int):=(by omega);have HX:Hid (R=2):=qh (HR.out.trans (Kc8 (.inr (zw5 hlt (decide_eq_true hv)))));clear hv;go_wp2_with fail;go_ret;exact⟨by rw [HX.out];rfl,rfl⟩
      . have d1:decide ((40:Int)<(vs[k].size:Int))=false:=decide_eq_false (by omega);have d2:¬(40:Int)<(vs[k].size:Int):=by omega
        have HN2:Hid (∀ j (hj:j<vs.length),j<k+1->yZ9 vs[j]=false):=λ j hj h=>by
         by_cases e:j=k
         . subst e;exact decide_eq_false hv
         . exact HN.out j hj (by omega)
        clear hv;go_wp2_with fail;go_roundw
        case rel=>exact⟨k+1,by go_num,by omega,by trivial,HN2⟩
        case measure=>simp [intOf];omega
    . obtain rfl:k=vs.length:=by omega
      have hno:¬(30<vs.length\/vs.any yZ9=true):=by
       rw [ZT3 λ j hj=>HN.out j hj hj];rintro(k|k)
       . exact h1 k
       . cases k
      have HNO:=qh hno;clear hno hlt HN;go_wp2_with fail;go_loopw [4] (λ u w2=>∃ k:Nat,u= .int .i64 (k:Int)/\k<=vs.length/\w2=wr/\Hid (∀ j (hj:j<vs.length),j<k->Jd3 vs[j]=false)) (λ u _=>vs.length-(intOf u).toNat)
      case atStart=>exact⟨0,rfl,by omega,rfl,λ j hj h=>absurd h (by omega)⟩
      case round=>
       obtain⟨k,rfl,hk,rfl,HN⟩:=hrel;by_cases hlt:k<vs.length
       . have j1:(k:Int)<(vs.length:Int):=(by omega);have j0:(0:Int)<=(k:Int):=(by omega);obtain⟨ad,rfl,hb,hcl⟩:=HS.out.at_ hlt;cases hv:Jd3 vs[k] with
         |true=>
          have d1:vs[k].toList.isEmpty=true:=kR1.trans hv;have HX:Hid (R=1):=qh (HR.out.trans (QY4 HNO.out (.inr (zw5 hlt hv))));clear hv;go_wp2_with fail;go_ret;exact⟨by rw [HX.out];rfl,rfl⟩
         |false=>
          have d1:vs[k].toList.isEmpty=false:=kR1.trans hv
          have HN2:Hid (∀ j (hj:j<vs.length),j<k+1->Jd3 vs[j]=false):=λ j hj h=>by
           by_cases e:j=k
           . subst e;exact hv
           . exact HN.out j hj (by omega)
          clear hv;go_wp2_with fail;go_roundw
          case rel=>exact⟨k+1,by go_num,by omega,by trivial,HN2⟩
          case measure=>simp [intOf];omega
       . obtain rfl:k=vs.length:=(by omega);have HA:Hid (vs.any Jd3=false):=qh (ZT3 λ j hj=>HN.out j hj hj);clear hlt HN;by_cases h0:vs.length=0
         focus
          have HX:Hid (R=1):=qh (HR.out.trans (QY4 HNO.out (.inl h0)));have j1:((vs.length:Int)==0)=true:=beq_iff_eq.2 (by omega)
         rotate_left
         focus
          have HX:Hid (R=0):=qh (HR.out.trans (QT0 HNO.out (by rw [HA.out];rintro(k|k);exact h0 k;cases k)));have j1:((vs.length:Int)==0)=false:=beq_eq_false_iff_ne.2 (by omega)
         all_goals
          clear h0;go_wp2_with fail;go_ret;exact⟨by rw [HX.out];rfl,rfl⟩
end
end Go.Proofs.YtngepacmgabmaaaGreatDoor
