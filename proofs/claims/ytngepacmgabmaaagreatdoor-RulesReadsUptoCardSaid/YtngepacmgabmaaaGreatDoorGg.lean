/- Walks: rules.list over variables and ove; strings.IndexByte by its contract .. -/
import Derived.Test.YtngepacmgabmaaaGreatDoorGf
import Derived.StillTailTactics
import Derived.Deep.RegionLaw
namespace Go.Proofs.YtngepacmgabmaaaGreatDoor
open Go.RowKit
set_option linter.unusedVariables false
set_option linter.unusedSimpArgs false
theorem jJ8 {w:World} {B B':Nat} {E:TypeId} {sz n:Nat} {v:Value} {xs:List Value} (h:w.ownsRow B E sz v n xs) (hB:B'<=B):w.ownsRow B' E sz v n xs:=by
 rcases h.2 with e|⟨x,cap,cur,e,hx,r⟩
 . exact⟨h.1,.inl e⟩
 . exact⟨h.1,.inr ⟨x,cap,cur,e,Nat.le_trans hB hx,r⟩⟩
theorem ji4 {w w':World} {B:Nat} {E:TypeId} {sz n:Nat} {v:Value} {xs:List Value} (h:w.ownsRow B E sz v n xs) (hb:Below w.heap.size w w'):w'.ownsRow B E sz v n xs:=by
 rcases h.2 with e|⟨x,cap,cur,e,hx,hw,r⟩
 . exact⟨h.1,.inl e⟩
 . exact⟨h.1,.inr ⟨x,cap,cur,e,hx,(hb.block x (Array.getElem?_eq_some_iff.1 hw).1).trans hw,r⟩⟩
theorem qT4 {w:World} {B:Nat} {E:TypeId} {sz n:Nat} {v:Value} {xs:List Value} (h:w.ownsRow B E sz v n xs):∃ A c,v= .slice A n c:=by
 rcases h.2 with⟨rfl,h2⟩|⟨g,c,cur,rfl,_⟩
 . exact⟨none,0,by rw [h2]⟩
 . exact⟨_,_,rfl⟩
theorem addZ (g k:Nat):(⟨g,0,none⟩:Addr).add k=⟨g,k,none⟩:=by
 by_cases h:k=0
 . subst h;rfl
 . simp [Addr.add,h]
theorem jD6:(Tryz.prog.info? 51).map (λ i=>(i.zero,i.size,i.bytes))=some (some (.agg #[.int .i64 0,.int .i64 0,.string {data:=#[]}]),3,32):=by kernel_rfl
theorem jr4 {w:World} {B:Nat} {v:Value} {l:List Vr} {ops:Array Oper} {rest:List Oper} {o:Oper} {a:Act} {Q:Exit->Act->World->Prop} (hgd:o.guard=none) (s y:Operand)
 (ho:o.op= .call {callee:= .builtin .append,args:=#[s,y],argTypes:=#[40,40]})
 (h:w.ownsRow B 51 3 v l.length (l.flatMap zl0)) (hs:a.eval s=v) (x:Vr)
 (hx:a.eval y= .slice (some ⟨w.heap.size,0,none⟩) 1 1) (hlen:l.length<=1000000000) (hB:B<=w.heap.size)
 (hK:∀ A c w',w'.ownsRow B 51 3 (.slice A (l.length+1) c) (l.length+1) ((l++ [x]).flatMap zl0)->Below B w w'->wpList Tryz.prog ops Q rest (a.put o.dst (.slice A (l.length+1) c)) w'):
 wpList Tryz.prog ops Q (o::rest) a (w.alloc (.cells #[.int .i64 x.k,.int .i64 x.m,.string x.n] 51)):=by
 obtain⟨i0,hi0,hz0,hz1,hz2⟩:=info_parts jD6
 refine zM8 (P:=Tryz.prog) (Q:=Q) (rest:=rest) (ops:=ops) hgd s y ho Tryz.underlying40 hi0 hz0 hz1 hz2 rfl (by decide) h hs (zl0 x) 1 1 hx rfl (by
  intro u hu;simp only [zl0,List.mem_cons,List.not_mem_nil,or_false] at hu;rcases hu with rfl|rfl|rfl
  all_goals rfl) (by unfold maxLen;omega) (by omega) hB λ v' w' h4 h5=> ?_
 have e:l.flatMap zl0++zl0 x=(l++ [x]).flatMap zl0:=by rw [List.flatMap_append];simp
 rw [e] at h4;obtain⟨A,c,rfl⟩:=qT4 h4;exact hK A c w' h4 (h5.below hB λ g hg=>Kw5 h g hg)
def rlV (s:ByteArray):List Vr×Bool:=if (pcs s ⟨#[44]⟩).all rvB=true then ((pcs s ⟨#[44]⟩).map rvV,true) else ([],false)
def xt1 (s:ByteArray) (w:World) (e:Ending) (w':World):Prop:=∃ v,e= .returned (.tuple #[v,.bool (rlV s).2])/\w'.ownsRow w.heap.size 51 3 v (rlV s).1.length ((rlV s).1.flatMap zl0)/\Below w.heap.size w w'
section
variable (s:ByteArray) (m:Int) (w:World)
set_option maxRecDepth 100000 in
set_option maxHeartbeats 4000000 in
theorem zZ4 (hs:s.size<=1048576) (hm:w.cell? ⟨4,0,none⟩=some (.int .i64 m)):
 Calls Tryz.prog 40 #[.string s,.func (.func 41) #[] #[]] w (xt1 s w):=by
 have hg:=World.block_lt_of_cell? _ _ hm;have CS:=qh (qQ5 s ⟨#[44]⟩ m w hs hm (by decide));have hpl:=jy8 (s:=s) (t:=⟨#[44]⟩) (by decide);have hpm:=zN9 ⟨#[44]⟩ (by decide) s.size s (Nat.le_refl _);obtain⟨R,hR⟩:∃ R,R=rlV s:=⟨_,rfl⟩;unfold xt1;rw [<-hR];unfold rlV at hR;obtain⟨L,hL⟩:∃ L,L=pcs s ⟨#[44]⟩:=⟨_,rfl⟩;rw [<-hL] at CS hpl hpm hR;have HR:=qh hR;have CV:=qh fun(x:ByteArray) w' (hx:x∈L) (hb:Below w.heap.size w w')=>Zk1 x m w' (Nat.le_trans (hpm x hx) hs) ((hb.cell (p:=⟨4,0,none⟩) hg).trans hm)
 clear hR hL hpm hm;go_enter Tryz.func40,Tryz.ntmps40;go_wp2_with fail;refine CS.out.mono ?_;rintro e w1 ⟨rfl,ho,b1⟩;have HO:=qh ho;have HB1:=qh b1;have hz1:=b1.size;clear ho b1 CS;go_wp2_with fail;go_loopw [6,14] (λ v u wr=>∃ (k:Nat) (A:Option Addr) (c:Nat),u= .int .i64 (k:Int)/\v= .slice A k c/\k<=L.length/\Hid (∀ j (hj:j<L.length),j<k->rvB L[j]=true)/\Hid (wr.ownsRow w1.heap.size 51 3 (.slice A k c) k (((L.take k).map rvV).flatMap zl0))/\Hid (Below w1.heap.size w1 wr)) (λ _ u _=>L.length-(intOf u).toNat)
 case atStart=>exact⟨0,none,0,rfl,rfl,Nat.zero_le _,qh λ j hj h=>absurd h (Nat.not_lt_zero _),qh (World.ownsRow_nil _ _ _ _),qh (Below.refl _ _)⟩
 case round=>
  obtain⟨k,A,c,rfl,rfl,hk,HA,HV,HB⟩:=hrel;by_cases hlk:k<L.length
  . have k1:(k:Int)<(L.length:Int):=(by omega);have k0:(0:Int)<=(k:Int):=(by omega);have kw:IntKind.i64.wrap ((k:Int)+1)=(k:Int)+1:=IntWalk.i64_in _ (by omega);have hos:=HO.out.kept HB.out;obtain⟨g,e,_,_,hc,hcell⟩:=hos.at_ (by omega);cases e;have y0:=hcell k hlk;have y1:wr.cell? ((⟨w.heap.size,0,none⟩:Addr).add k)=some (.string L[k]):=(by rw [addZ];exact y0);have HBw:Hid (Below w.heap.size w wr):=qh (HB1.out.trans (HB.out.mono hz1));have C:=qh (CV.out L[k] wr (List.getElem_mem hlk) HBw.out);have hrz:=HB.out.size;have htk:L.take (k+1)=L.take k++ [L[k]]:=List.take_succ_eq_append_getElem hlk;have hln:((L.take k).map rvV).length=k:=(by rw [List.length_map,List.length_take,Nat.min_eq_left (by omega)]);obtain⟨x,hx⟩:∃ x,x=rvV L[k]:=⟨_,rfl⟩;rw [<-hx] at C;have HX:=qh hx;have HTK:=qh htk;have HLN:=qh hln;clear hos hc hcell hx htk hln;cases hb:rvB L[k] with
    |false=>
     rw [hb] at C
     have HR2:Hid (R=([],false)):=qh (by
      rw [HR.out,if_neg];intro h;rw [List.all_eq_true] at h;have:=h _ (List.getElem_mem hlk);rw [hb] at this;cases this)
     clear hb;go_wp2_with fail;refine C.out.mono ?_;rintro e w2 ⟨rfl,b2⟩;have HB2:=qh (HBw.out.trans (b2.mono HBw.out.size));clear b2;go_wp2_with fail;go_ret2;exact⟨.slice none 0 0,by rw [HR2.out];rfl,by rw [HR2.out];exact World.ownsRow_nil _ _ _ _,HB2.out.alloc HB2.out.size _⟩
    |true=>
     rw [hb] at C
     have HA2:Hid (∀ j (hj:j<L.length),j<k+1->rvB L[j]=true):=qh λ j hj h=>by
      by_cases e:j=k
      . subst e;exact hb
      . exact HA.out j hj (by omega)
     clear hb HA;go_wp2_with fail;refine C.out.mono ?_;rintro e w2 ⟨rfl,b2⟩;have HB2:=qh (HB.out.trans (b2.mono hrz));have HV2:=qh (ji4 HV.out b2);clear b2;obtain⟨W3,hW3⟩:∃ W3,w2.alloc (.cells #[.int .i64 x.k,.int .i64 x.m,.string x.n] 51)=W3:=⟨_,rfl⟩;have hk3:Blk W3 w2.heap.size 51 #[.int .i64 x.k,.int .i64 x.m,.string x.n]:=(by rw [<-hW3];exact Blk.new _ _ _);have hb3:Below w2.heap.size w2 W3:=(by rw [<-hW3];exact(Below.refl _ _).alloc (Nat.le_refl _) _);have HV3:=qh (ji4 HV2.out hb3);have HB3:=qh (HB2.out.trans (hb3.mono HB2.out.size));obtain⟨z0,z1,z2⟩:=Blk.c3 hk3;clear hk3 hb3 HV2;have hln:((L.take k).map rvV).length=k:=HLN.out;have hV3:W3.ownsRow w1.heap.size 51 3 (.slice A k c) ((L.take k).map rvV).length (((L.take k).map rvV).flatMap zl0):=(by rw [hln];exact HV3.out);have HV4:=qh hV3;clear hV3 hln;go_wp2_with (first|(at_builtin;refine jr4 rfl (.tmp 26) (.tmp 28) rfl HV4.out rfl x rfl (by rw [HLN.out];omega) HB3.out.size ?_;rw [HLN.out];intro A5 c5 w5 h5 b5)|fail)
     have HV5:Hid (w5.ownsRow w1.heap.size 51 3 (.slice A5 (k+1) c5) (k+1) (((L.take (k+1)).map rvV).flatMap zl0)):=qh (by
      rw [HTK.out,List.map_append,List.map_singleton,<-HX.out];exact h5)
     have HB5:=qh (HB3.out.trans b5);clear h5 b5;go_roundw
     case rel=>exact⟨k+1,A5,c5,by go_num,rfl,by omega,HA2,HV5,HB5⟩
     case measure=>simp [intOf];omega
  . obtain rfl:k=L.length:=by omega
    have hall:L.all rvB=true:=by
     rw [List.all_eq_true];intro v hv;obtain⟨i,hi,rfl⟩:=List.mem_iff_getElem.1 hv;exact HA.out i hi hi
    have HR2:Hid (R=(L.map rvV,true)):=qh (by rw [HR.out,if_pos hall]);clear hall HA HR;go_wp2_with fail;go_ret2;refine⟨.slice A L.length c,by rw [HR2.out];rfl,?_,HB1.out.trans (HB.out.mono hz1)⟩;rw [HR2.out];have h:=HV.out;rw [List.take_length] at h;dsimp only;rw [List.length_map];exact jJ8 h hz1
end
theorem QM0:(Tryz.prog.info? 55).map (λ i=>(i.zero,i.size,i.bytes))=some (some (.agg #[.int .i64 0,.int .i64 0]),2,16):=by kernel_rfl
theorem ZX2 {w:World} {B:Nat} {v:Value} {l:List (Int×Int)} {ops:Array Oper} {rest:List Oper} {o:Oper} {a:Act} {Q:Exit->Act->World->Prop} (hgd:o.guard=none) (s y:Operand)
 (ho:o.op= .call {callee:= .builtin .append,args:=#[s,y],argTypes:=#[42,42]})
 (h:w.ownsRow B 55 2 v l.length (l.flatMap jQ1)) (hs:a.eval s=v) (x:(Int×Int))
 (hx:a.eval y= .slice (some ⟨w.heap.size,0,none⟩) 1 1) (hlen:l.length<=1000000000) (hB:B<=w.heap.size)
 (hK:∀ A c w',w'.ownsRow B 55 2 (.slice A (l.length+1) c) (l.length+1) ((l++ [x]).flatMap jQ1)->Below B w w'->wpList Tryz.prog ops Q rest (a.put o.dst (.slice A (l.length+1) c)) w'):
 wpList Tryz.prog ops Q (o::rest) a (w.alloc (.cells #[.int .i64 x.1,.int .i64 x.2] 55)):=by
 obtain⟨i0,hi0,hz0,hz1,hz2⟩:=info_parts QM0
 refine zM8 (P:=Tryz.prog) (Q:=Q) (rest:=rest) (ops:=ops) hgd s y ho Tryz.underlying42 hi0 hz0 hz1 hz2 rfl (by decide) h hs (jQ1 x) 1 1 hx rfl (by
  intro u hu;simp only [jQ1,List.mem_cons,List.not_mem_nil,or_false] at hu;rcases hu with rfl|rfl
  all_goals rfl) (by unfold maxLen;omega) (by omega) hB λ v' w' h4 h5=> ?_
 have e:l.flatMap jQ1++jQ1 x=(l++ [x]).flatMap jQ1:=by rw [List.flatMap_append];simp
 rw [e] at h4;obtain⟨A,c,rfl⟩:=qT4 h4;exact hK A c w' h4 (h5.below hB λ g hg=>Kw5 h g hg)
def rlA (s:ByteArray):List (Int×Int)×Bool:=if (pcs s ⟨#[44]⟩).all raB=true then ((pcs s ⟨#[44]⟩).map raX,true) else ([],false)
def qo5 (s:ByteArray) (w:World) (e:Ending) (w':World):Prop:=∃ v,e= .returned (.tuple #[v,.bool (rlA s).2])/\w'.ownsRow w.heap.size 55 2 v (rlA s).1.length ((rlA s).1.flatMap jQ1)/\Below w.heap.size w w'
section
variable (s:ByteArray) (m:Int) (w:World)
set_option maxRecDepth 100000 in
set_option maxHeartbeats 4000000 in
theorem JI4 (hs:s.size<=1048576) (hm:w.cell? ⟨4,0,none⟩=some (.int .i64 m)):
 Calls Tryz.prog 42 #[.string s,.func (.func 43) #[] #[]] w (qo5 s w):=by
 have hg:=World.block_lt_of_cell? _ _ hm;have CS:=qh (qQ5 s ⟨#[44]⟩ m w hs hm (by decide));have hpl:=jy8 (s:=s) (t:=⟨#[44]⟩) (by decide);have hpm:=zN9 ⟨#[44]⟩ (by decide) s.size s (Nat.le_refl _);obtain⟨R,hR⟩:∃ R,R=rlA s:=⟨_,rfl⟩;unfold qo5;rw [<-hR];unfold rlA at hR;obtain⟨L,hL⟩:∃ L,L=pcs s ⟨#[44]⟩:=⟨_,rfl⟩;rw [<-hL] at CS hpl hpm hR;have HR:=qh hR;have CV:=qh fun(x:ByteArray) w' (hx:x∈L) (hb:Below w.heap.size w w')=>Y50 x m w' (Nat.le_trans (hpm x hx) hs) ((hb.cell (p:=⟨4,0,none⟩) hg).trans hm)
 clear hR hL hpm hm;go_enter Tryz.func42,Tryz.ntmps42;go_wp2_with fail;refine CS.out.mono ?_;rintro e w1 ⟨rfl,ho,b1⟩;have HO:=qh ho;have HB1:=qh b1;have hz1:=b1.size;clear ho b1 CS;go_wp2_with fail;go_loopw [6,14] (λ v u wr=>∃ (k:Nat) (A:Option Addr) (c:Nat),u= .int .i64 (k:Int)/\v= .slice A k c/\k<=L.length/\Hid (∀ j (hj:j<L.length),j<k->raB L[j]=true)/\Hid (wr.ownsRow w1.heap.size 55 2 (.slice A k c) k (((L.take k).map raX).flatMap jQ1))/\Hid (Below w1.heap.size w1 wr)) (λ _ u _=>L.length-(intOf u).toNat)
 case atStart=>exact⟨0,none,0,rfl,rfl,Nat.zero_le _,qh λ j hj h=>absurd h (Nat.not_lt_zero _),qh (World.ownsRow_nil _ _ _ _),qh (Below.refl _ _)⟩
 case round=>
  obtain⟨k,A,c,rfl,rfl,hk,HA,HV,HB⟩:=hrel;by_cases hlk:k<L.length
  . have k1:(k:Int)<(L.length:Int):=(by omega);have k0:(0:Int)<=(k:Int):=(by omega);have kw:IntKind.i64.wrap ((k:Int)+1)=(k:Int)+1:=IntWalk.i64_in _ (by omega);have hos:=HO.out.kept HB.out;obtain⟨g,e,_,_,hc,hcell⟩:=hos.at_ (by omega);cases e;have y0:=hcell k hlk;have y1:wr.cell? ((⟨w.heap.size,0,none⟩:Addr).add k)=some (.string L[k]):=(by rw [addZ];exact y0);have HBw:Hid (Below w.heap.size w wr):=qh (HB1.out.trans (HB.out.mono hz1));have C:=qh (CV.out L[k] wr (List.getElem_mem hlk) HBw.out);have hrz:=HB.out.size;have htk:L.take (k+1)=L.take k++ [L[k]]:=List.take_succ_eq_append_getElem hlk;have hln:((L.take k).map raX).length=k:=(by rw [List.length_map,List.length_take,Nat.min_eq_left (by omega)]);obtain⟨x,hx⟩:∃ x,x=raX L[k]:=⟨_,rfl⟩;rw [<-hx] at C;have HX:=qh hx;have HTK:=qh htk;have HLN:=qh hln;clear hos hc hcell hx htk hln;cases hb:raB L[k] with
    |false=>
     rw [hb] at C
     have HR2:Hid (R=([],false)):=qh (by
      rw [HR.out,if_neg];intro h;rw [List.all_eq_true] at h;have:=h _ (List.getElem_mem hlk);rw [hb] at this;cases this)
     clear hb;go_wp2_with fail;refine C.out.mono ?_;rintro e w2 ⟨rfl,b2⟩;have HB2:=qh (HBw.out.trans (b2.mono HBw.out.size));clear b2;go_wp2_with fail;go_ret2;exact⟨.slice none 0 0,by rw [HR2.out];rfl,by rw [HR2.out];exact World.ownsRow_nil _ _ _ _,HB2.out.alloc HB2.out.size _⟩
    |true=>
     rw [hb] at C
     have HA2:Hid (∀ j (hj:j<L.length),j<k+1->raB L[j]=true):=qh λ j hj h=>by
      by_cases e:j=k
      . subst e;exact hb
      . exact HA.out j hj (by omega)
     clear hb HA;go_wp2_with fail;refine C.out.mono ?_;rintro e w2 ⟨rfl,b2⟩;have HB2:=qh (HB.out.trans (b2.mono hrz));have HV2:=qh (ji4 HV.out b2);clear b2;obtain⟨W3,hW3⟩:∃ W3,w2.alloc (.cells #[.int .i64 x.1,.int .i64 x.2] 55)=W3:=⟨_,rfl⟩;have hk3:Blk W3 w2.heap.size 55 #[.int .i64 x.1,.int .i64 x.2]:=(by rw [<-hW3];exact Blk.new _ _ _);have hb3:Below w2.heap.size w2 W3:=(by rw [<-hW3];exact(Below.refl _ _).alloc (Nat.le_refl _) _);have HV3:=qh (ji4 HV2.out hb3);have HB3:=qh (HB2.out.trans (hb3.mono HB2.out.size));obtain⟨z0,z1⟩:=Blk.c2 hk3;clear hk3 hb3 HV2;have hln:((L.take k).map raX).length=k:=HLN.out;have hV3:W3.ownsRow w1.heap.size 55 2 (.slice A k c) ((L.take k).map raX).length (((L.take k).map raX).flatMap jQ1):=(by rw [hln];exact HV3.out);have HV4:=qh hV3;clear hV3 hln;go_wp2_with (first|(at_builtin;refine ZX2 rfl (.tmp 26) (.tmp 28) rfl HV4.out rfl x rfl (by rw [HLN.out];omega) HB3.out.size ?_;rw [HLN.out];intro A5 c5 w5 h5 b5)|fail)
     have HV5:Hid (w5.ownsRow w1.heap.size 55 2 (.slice A5 (k+1) c5) (k+1) (((L.take (k+1)).map raX).flatMap jQ1)):=qh (by
      rw [HTK.out,List.map_append,List.map_singleton,<-HX.out];exact h5)
     have HB5:=qh (HB3.out.trans b5);clear h5 b5;go_roundw
     case rel=>exact⟨k+1,A5,c5,by go_num,rfl,by omega,HA2,HV5,HB5⟩
     case measure=>simp [intOf];omega
  . obtain rfl:k=L.length:=by omega
    have hall:L.all raB=true:=by
     rw [List.all_eq_true];intro v hv;obtain⟨i,hi,rfl⟩:=List.mem_iff_getElem.1 hv;exact HA.out i hi hi
    have HR2:Hid (R=(L.map raX,true)):=qh (by rw [HR.out,if_pos hall]);clear hall HA HR;go_wp2_with fail;go_ret2;refine⟨.slice A L.length c,by rw [HR2.out];rfl,?_,HB1.out.trans (HB.out.mono hz1)⟩;rw [HR2.out];have h:=HV.out;rw [List.take_length] at h;dsimp only;rw [List.length_map];exact jJ8 h hz1
end
def ixb (l:List UInt8) (n:Int):Int:=Lib.indexByte l n.toNat.toUInt8
theorem qP2 (s:ByteArray) (l:List UInt8) (h:s.data.toList=l) (n:Int) (w:World):
 Calls Tryz.prog 98 #[.string s,.int .u8 n] w λ e w'=>e= .returned (.int .i64 (ixb l n))/\w=w':=
 (Tryz.strings_IndexByte s n w).mono λ _ _ hh=>⟨by rw [hh.1,h];rfl,hh.2.symm⟩




def Jq5:List UInt8:= [48,49,50,51,52,53,54,55,56,57,97,98,99,100,101,102]
theorem kF2 {s:ByteArray} (c:UInt8):(s.toList== [c])=decide (s.data.toList= [c]):=by
 rw [Lib.toList_data];by_cases h:s.data.toList= [c]<;>simp [h]
theorem q69 {s:ByteArray}:s.toList.isEmpty=decide (s.data.toList= []):=by
 rw [Lib.toList_data];cases s.data.toList<;>simp
theorem KY9:∀ a b:Fin 16,bits .or .i64 (16*(a.val:Int)) (b.val:Int)=16*(a.val:Int)+b.val:=by decide+kernel
theorem yZ6 (a b:Int) (h1:0<=a) (h2:a<=15) (h3:0<=b) (h4:b<=15):bits .or .i64 (16*a) b=16*a+b:=by
 have h:=KY9 ⟨a.toNat,by omega⟩ ⟨b.toNat,by omega⟩;simp only [Int.toNat_of_nonneg h1,Int.toNat_of_nonneg h3] at h;exact h
def XP3 (f:List UInt8->Option (UInt8×Nat)):List UInt8->Option (List UInt8)
 | []=>some []
 |c::r=>match f (c::r) with
  |none=>none
  |some (b,n)=>(XP3 f (r.drop (n-1))).map (b:: ·)
termination_by l=>l.length
decreasing_by simp;omega
theorem Jy1 (f:List UInt8->Option (UInt8×Nat)):XP3 f []=some []:=by rw [XP3]
theorem YG0 {f:List UInt8->Option (UInt8×Nat)} {s:ByteArray} {k n:Nat} {b:UInt8} (hk:k<s.size) (hn:1<=n) (h:f (s.data.toList.drop k)=some (b,n)):
 XP3 f (s.data.toList.drop k)=(XP3 f (s.data.toList.drop (k+n))).map (b:: ·):=by
 rw [XT0 s k hk] at h⊢;rw [XP3,h];simp only [List.drop_drop];rw [show k+1+(n-1)=k+n from by omega]
theorem Ya6 {f:List UInt8->Option (UInt8×Nat)} {s:ByteArray} {k:Nat} (hk:k<s.size) (h:f (s.data.toList.drop k)=none):XP3 f (s.data.toList.drop k)=none:=by
 rw [XT0 s k hk] at h⊢;rw [XP3,h]
theorem QL4 {A:List UInt8} {X Y T:Option (List UInt8)} {b:UInt8} (h:Hid (T=X.map (A++ ·))) (h2:X=Y.map (b:: ·)):Hid (T=Y.map ((A++ [b])++ ·)):=by
 show T=_;rw [h.out,h2];cases Y<;>simp
theorem yI6 {A:List UInt8} {T:Option (List UInt8)} {f:List UInt8->Option (UInt8×Nat)} {s:ByteArray} {k:Nat} (h:Hid (T=(XP3 f (s.data.toList.drop k)).map (A++ ·))) (hk:s.size<=k):T=some A:=by
 rw [h.out,YR8 s hk,Jy1];simp
theorem qH9 {A:List UInt8} {T X:Option (List UInt8)} (h:Hid (T=X.map (A++ ·))) (h2:X=none):T=none:=by rw [h.out,h2];rfl
theorem jt4 (T:Option (List UInt8)):Hid (T=T.map (([]:List UInt8)++ ·)):=by show T=_;cases T<;>simp
theorem Z06 (t:ByteArray) (a b:Nat) (h:a<=b) (hb:b<=t.size):(t.extract a b).size=b-a:=by
 rw [<-qX6,Yz8,List.length_drop,List.length_take,qX6];omega

def xV0 (l:List UInt8):UInt8×Nat:=
 match l with
 | []=>(0,0)
 |a::r=>if (0:Int)<=ixb [110,114,116,115,92,45] (a.toNat:Int) then (([10,13,9,32,92,45]:List UInt8).getD (ixb [110,114,116,115,92,45] (a.toNat:Int)).toNat 0,1) else if a=120 then
  (match r with
   |b::c::_=>if (0:Int)<=ixb Jq5 (b.toNat:Int)/\(0:Int)<=ixb Jq5 (c.toNat:Int) then (UInt8.ofNat ((16:Int)*jJ9 (b.toNat:Int)+jJ9 (c.toNat:Int)).toNat,3) else (0,0)
   |_=>(0,0)) else (0,0)
theorem qJ0 {t:ByteArray} (h:¬0<t.size):xV0 t.data.toList=(0,0):=by
 have:=YR8 t (k:=0) (by omega);rw [List.drop_zero] at this;rw [this];rfl
theorem Q58 {t:ByteArray} (h:0<t.size):t.data.toList=t[0]::t.data.toList.drop 1:=by
 have:=XT0 t 0 h;rwa [List.drop_zero] at this
theorem Y76 {t:ByteArray} (h:0<t.size) (h1:ixb [110,114,116,115,92,45] (t[0].toNat:Int)<0) (h3:t.size<3):xV0 t.data.toList=(0,0):=by
 rw [Q58 h];unfold xV0;dsimp only;rw [if_neg (by omega)];have hl:(t.data.toList.drop 1).length<2:=by rw [List.length_drop,qX6];omega
 match hd:t.data.toList.drop 1 with
 | []=>split<;>rfl
 | [_]=>split<;>rfl
 |_::_::_=>rw [hd] at hl;simp at hl;omega
theorem ZZ0 {t:ByteArray} (h:0<t.size) (h1:ixb [110,114,116,115,92,45] (t[0].toNat:Int)<0) (h2:¬t[0]=120):xV0 t.data.toList=(0,0):=by
 rw [Q58 h];unfold xV0;dsimp only;rw [if_neg (by omega),if_neg h2]
theorem ZB6 {t:ByteArray} (h:2<t.size) (h1:ixb [110,114,116,115,92,45] (t[0].toNat:Int)<0) (h2:t[0]=120):
 xV0 t.data.toList=if (0:Int)<=ixb Jq5 (t[1].toNat:Int)/\(0:Int)<=ixb Jq5 (t[2].toNat:Int) then (UInt8.ofNat ((16:Int)*jJ9 (t[1].toNat:Int)+jJ9 (t[2].toNat:Int)).toNat,3) else (0,0):=by
 rw [Q58 (by omega),XT0 t 1 (by omega),XT0 t 2 (by omega)];unfold xV0;dsimp only;rw [if_neg (by omega),if_pos h2]
theorem Zu9 {t:ByteArray} (h:0<t.size) (K:Nat) (h1:ixb [110,114,116,115,92,45] (t[0].toNat:Int)=K):xV0 t.data.toList=(([10,13,9,32,92,45]:List UInt8).getD K 0,1):=by
 rw [Q58 h];unfold xV0;dsimp only;rw [if_pos (by omega),h1];rfl
theorem ke3:∀ b:UInt8,(∃ K:Fin 6,ixb [110,114,116,115,92,45] (b.toNat:Int)=(K.val:Int))\/ixb [110,114,116,115,92,45] (b.toNat:Int)= -1:=k73 (by decide+kernel)
theorem zO6:(ByteArray.mk #[10,13,9,32,92,45]).size=6:=rfl
theorem JH7:∀ k:Fin 6,((ByteArray.mk #[10,13,9,32,92,45])[k.val]'(by rw [zO6];exact k.isLt))=([10,13,9,32,92,45]:List UInt8).getD k.val 0:=by decide
theorem Zx6 (k:Nat) (h:k<6):((ByteArray.mk #[10,13,9,32,92,45])[k]'(by rw [zO6];exact h))=([10,13,9,32,92,45]:List UInt8).getD k 0:=JH7 ⟨k,h⟩
theorem zA9:∀ b:UInt8,(0:Int)<=ixb Jq5 (b.toNat:Int)->(0:Int)<=jJ9 (b.toNat:Int):=k73 (by decide+kernel)
theorem Qm0 (l:List UInt8):(xV0 l).2<=l.length:=by
 unfold xV0;match l with
 | []=>exact Nat.le_refl _
 |a::r=>
  simp only;split
  . simp
  . split
    . match r with
      | []=>simp
      | [_]=>simp
      |b::c::r2=>simp only;split<;>simp
    . simp
theorem J03 (s:ByteArray) (n:Int) (w:World):
 Calls Tryz.prog 98 #[.string s,.int .u8 n] w λ e w'=>e= .returned (.int .i64 (ixb s.data.toList n))/\w=w':=qP2 s _ rfl n w
theorem JZ2:Jq5= [48,49,50,51,52,53,54,55,56,57,97,98,99,100,101,102]:=rfl
set_option maxHeartbeats 1000000 in
theorem YX8 (t:ByteArray) (w:World) (hs:t.size<=140737488355328):
 Calls Tryz.prog 83 #[.string t] w λ e w'=>e= .returned (.tuple #[.int .u8 ((xV0 t.data.toList).1.toNat:Int),.int .i64 ((xV0 t.data.toList).2:Int)])/\∃ q,w'=w.drewN q:=by
 by_cases h0:0<t.size
 . have e1:t.toList.isEmpty=false:=(by rw [q69,decide_eq_false_iff_not];intro h;rw [Q58 h0] at h;cases h);have i0:(0:Int)<t.size:=(by omega);obtain⟨c1,c2⟩:=j65 t[0];rcases ke3 t[0] with⟨⟨K,hK⟩,hx⟩|hx
   . have HX:=qh hx;have HE:=qh (Zu9 h0 K hx);have i1:(0:Int)<=K/\(K:Int)<6:=(by omega);go_enter Tryz.func83,Tryz.ntmps83;go_wp2_with (go_at_call 98;refine(J03 _ _ _).mono ?_;rintro e w' ⟨rfl,rfl⟩);go_ret2;exact⟨by rw [HE.out,<-Zx6 K hK];rfl,0,rfl⟩
   . have HX:=qh hx;by_cases h120:t[0]=120
     . have e120:((t[0].toNat:Int) !=120)=false:=Ku0 (c:=120) h120;by_cases h3:2<t.size
       . obtain⟨c3,c4⟩:=j65 t[1];obtain⟨c5,c6⟩:=j65 t[2];have i1:(1:Int)<t.size:=(by omega);have i2:(2:Int)<t.size:=(by omega);have HE:=qh (ZB6 h3 (by omega) h120);have d1:=XX8 t[1].toNat;have d2:=Xv7 t[1].toNat;have d3:=XX8 t[2].toNat;have d4:=Xv7 t[2].toNat;by_cases p1:(0:Int)<=ixb Jq5 (t[1].toNat:Int)
         . have p1':=p1;rw [JZ2] at p1';by_cases p2:(0:Int)<=ixb Jq5 (t[2].toNat:Int)
           . have p2':=p2;rw [JZ2] at p2';have v1:=zA9 _ p1;have v2:=zA9 _ p2;have HE2:=qh (HE.out.trans (if_pos ⟨p1,p2⟩));clear h120;go_enter Tryz.func83,Tryz.ntmps83;go_wp2_with (go_at_call 98;refine(J03 _ _ _).mono ?_;rintro e w' ⟨rfl,rfl⟩);go_quiet (first|(go_at_call 115;exact K97 (kX3 _ (by omega) (by omega) _)))
             go_wp2
             go_ret2;refine⟨?_,_,rfl⟩;rw [HE2.out];show Ending.returned (.tuple #[.int .u8 (bits .or .i64 (jJ9 (t[1].toNat:Int)*16) (jJ9 (t[2].toNat:Int))%256),.int .i64 3])=_;rw [Int.mul_comm,yZ6 _ _ (by omega) (by omega) (by omega) (by omega)];refine XB3 ?_ rfl;rw [Q76 _ (by omega)];congr 1;omega
           . have p2':=p2;rw [JZ2] at p2';have HE2:=qh (HE.out.trans (if_neg (λ h=>p2 h.2)));clear h120;go_enter Tryz.func83,Tryz.ntmps83;go_wp2_with (go_at_call 98;refine(J03 _ _ _).mono ?_;rintro e w' ⟨rfl,rfl⟩);go_ret2;exact⟨by rw [HE2.out];rfl,0,rfl⟩
         . have p1':=p1;rw [JZ2] at p1';have HE2:=qh (HE.out.trans (if_neg (λ h=>p1 h.1)));clear h120;go_enter Tryz.func83,Tryz.ntmps83;go_wp2_with (go_at_call 98;refine(J03 _ _ _).mono ?_;rintro e w' ⟨rfl,rfl⟩);go_ret2;exact⟨by rw [HE2.out];rfl,0,rfl⟩
       . have HE:=qh (Y76 h0 (by omega) (by omega));have i2:(t.size:Int)<3:=(by omega);clear h120;go_enter Tryz.func83,Tryz.ntmps83;go_wp2_with (go_at_call 98;refine(J03 _ _ _).mono ?_;rintro e w' ⟨rfl,rfl⟩);go_ret2;exact⟨by rw [HE.out];rfl,0,rfl⟩
     . have e120:((t[0].toNat:Int) !=120)=true:=zx7 (c:=120) h120;have HE:=qh (ZZ0 h0 (by omega) h120);clear h120;go_enter Tryz.func83,Tryz.ntmps83;go_wp2_with (go_at_call 98;refine(J03 _ _ _).mono ?_;rintro e w' ⟨rfl,rfl⟩);go_ret2;exact⟨by rw [HE.out];rfl,0,rfl⟩
 . have e1:t.toList.isEmpty=true:=(by rw [q69];simp;have:=YR8 t (k:=0) (by omega);rw [List.drop_zero] at this;simpa using this);have HE:=qh (qJ0 h0);go_enter Tryz.func83,Tryz.ntmps83
   go_wp2
   go_ret2;exact⟨by rw [HE.out];rfl,0,rfl⟩
def unF (l:List UInt8):Option (UInt8×Nat):=
 match l with
 | []=>none
 |c::r=>if c=92 then (if (xV0 r).2=0 then none else some ((xV0 r).1,(xV0 r).2+1)) else if c.toNat<33\/126<c.toNat then none else some (c,1)
theorem xI2 {s:ByteArray} {k:Nat} (h:k<s.size):unF (s.data.toList.drop k)=
 if s[k]=92 then (if (xV0 (s.data.toList.drop (k+1))).2=0 then none else some ((xV0 (s.data.toList.drop (k+1))).1,(xV0 (s.data.toList.drop (k+1))).2+1)) else if s[k].toNat<33\/126<s[k].toNat then none else some (s[k],1):=by
 rw [XT0 s k h];rfl
def zn2 (l:List UInt8):List UInt8:=if l= [45] then [] else (XP3 unF l).getD []
def KN6 (l:List UInt8):Int:=if l= [45] then 0 else if l= [] then 3 else if (XP3 unF l).isSome then 0 else 3
theorem ZX6 {l A:List UInt8} (h:¬l= [45]) (h0:¬l= []) (hd:XP3 unF l=some A):zn2 l=A/\KN6 l=0:=by simp [zn2,KN6,h,h0,hd]
theorem X16 {l:List UInt8} (h:¬l= [45]) (h0:¬l= []) (hd:XP3 unF l=none):zn2 l= []/\KN6 l=3:=by simp [zn2,KN6,h,h0,hd]
theorem qk7 (t:ByteArray) (l:List UInt8) (x:UInt8) (n:Nat) (hl:t.data.toList=l) (hx:(xV0 l).1=x) (hn:(xV0 l).2=n) (w:World) (hs:t.size<=140737488355328):
 Calls Tryz.prog 83 #[.string t] w λ e w'=>e= .returned (.tuple #[.int .u8 (x.toNat:Int),.int .i64 (n:Int)])/\∃ q,w'=w.drewN q:=by
 subst hl;subst hx;subst hn;exact YX8 t w hs
set_option maxHeartbeats 1000000 in
theorem yS4 (s:ByteArray) (w:World) (hs:s.size<=140737488355320):
 Calls Tryz.prog 47 #[.string s] w λ e w'=>e= .returned (.tuple #[.string (str (zn2 s.data.toList)),.int .i64 (KN6 s.data.toList)])/\Below w.heap.size w w':=by
 by_cases h1:s.data.toList= [45]
 . have HQ:=qh (show zn2 s.data.toList= []/\KN6 s.data.toList=0 by simp [zn2,KN6,h1]);have e2:=(kF2 45).trans (decide_eq_true h1);clear h1;go_enter Tryz.func47,Tryz.ntmps47
   go_wp2
   go_ret2;exact⟨by rw [HQ.out.1,HQ.out.2];rfl,Below.refl _ _⟩
 . have e2:=(kF2 45).trans (decide_eq_false h1);by_cases h0:s.data.toList= []
   . have HQ:=qh (show zn2 s.data.toList= []/\KN6 s.data.toList=3 by simp [zn2,KN6,h1,h0,Jy1]);have e1:=q69.trans (decide_eq_true h0);clear h0 h1;go_enter Tryz.func47,Tryz.ntmps47
     go_wp2
     go_ret2;exact⟨by rw [HQ.out.1,HQ.out.2];rfl,Below.refl _ _⟩
   . have e1:=q69.trans (decide_eq_false h0);have HS:=qh (λ A=>ZX6 (A:=A) h1 h0);have HN:=qh (X16 h1 h0);clear h0 h1;go_enter Tryz.func47,Tryz.ntmps47;go_wp2_with fail;go_loopw [4,5] (λ v i wr=>∃ (k:Nat) (A:List UInt8),k<=s.size/\A.length<=k/\i= .int .i64 k/\OB wr w.heap.size v A/\Hid (XP3 unF s.data.toList=(XP3 unF (s.data.toList.drop k)).map (A++ ·))/\Below w.heap.size w wr) (λ _ i _=>s.size-(intOf i).toNat)
     case atStart=>exact⟨0,[],by omega,by simp,rfl,OB.nil _ _,jt4 _,Below.refl _ _⟩
     case round=>
      obtain⟨k,A,hk,hA,rfl,hown,HE,hbl⟩:=hrel;have HO:=qh hown;have hsz:=hbl.size;have HB:=qh hbl;clear hown hbl;by_cases hlt:k<s.size
      . obtain⟨c1,c2⟩:=j65 s[k];have HF:=qh (xI2 hlt);by_cases h92:s[k]=92
        . have e92:((s[k].toNat:Int)==92)=true:=zf5 (c:=92) h92;have hl:(s.extract (k+1) s.size).data.toList=s.data.toList.drop (k+1):=Lib.extract_to_end s (k+1);have hsz2:=Z06 s (k+1) s.size (by omega) (by omega);have hsz3:(s.extract (k+1) s.size).size<=s.size:=(by omega);have hle:=Qm0 (s.data.toList.drop (k+1));rw [List.length_drop,qX6] at hle;obtain⟨x,hx⟩:∃ x,(xV0 (s.data.toList.drop (k+1))).1=x:=⟨_,rfl⟩;obtain⟨n,hn⟩:∃ n,(xV0 (s.data.toList.drop (k+1))).2=n:=⟨_,rfl⟩;rw [hn] at hle;have HL:=qh hl;have HX:=qh hx;have HNn:=qh hn;rw [hx,hn] at HF;clear hl hsz2 hx hn;obtain⟨x1,x2⟩:=j65 x;by_cases hn0:n=0
          . have HD:=qh (HN.out (qH9 HE (Ya6 hlt (HF.out.trans ((if_pos h92).trans (if_pos hn0))))));have en:((n:Int)==0)=true:=beq_iff_eq.2 (by omega);clear h92 hn0;go_wp2_with (go_at_call 83;refine(qk7 _ _ x n HL.out HX.out HNn.out _ (by omega)).mono ?_;rintro e w' ⟨rfl,q,rfl⟩);go_ret2;exact⟨by rw [HD.out.1,HD.out.2];rfl,below_drewN HB.out q⟩
          . have HD:=qh (YG0 hlt (by omega) (HF.out.trans ((if_pos h92).trans (if_neg hn0))));have en:((n:Int)==0)=false:=beq_eq_false_iff_ne.2 (by omega);clear h92
            go_wp2_with (first
             |(go_at_call 83;refine(qk7 _ _ x n HL.out HX.out HNn.out _ (by omega)).mono ?_;rintro e w' ⟨rfl,q,rfl⟩)
             |(at_builtin;refine QI7 rfl (.tmp 45) (.tmp 47) rfl (HO.out.drewN q) rfl _ [x] rfl rfl (by simp only [List.length_cons,List.length_nil];omega) hsz ?_;intro v' w1 ho1 hb1))
            go_roundw
            case rel=>exact⟨k+(n+1),A++ [x],by omega,by rw [List.length_append];simp;omega,by go_num,ho1,QL4 HE HD.out,(below_drewN HB.out q).trans hb1⟩
            case measure=>simp [intOf];omega
        . have e92:((s[k].toNat:Int)==92)=false:=kd3 (c:=92) h92;by_cases hr:s[k].toNat<33\/126<s[k].toNat
          . have HD:=qh (HN.out (qH9 HE (Ya6 hlt (HF.out.trans ((if_neg h92).trans (if_pos hr))))));have hr2:(s[k].toNat:Int)<33\/(33<=(s[k].toNat:Int)/\126<(s[k].toNat:Int)):=(by omega);clear h92 hr;rcases hr2 with hr2|hr2
            all_goals go_wp2_with fail
            all_goals go_ret2
            all_goals exact⟨by rw [HD.out.1,HD.out.2];rfl,HB.out⟩
          . have HD:=qh (YG0 hlt (by omega) (HF.out.trans ((if_neg h92).trans (if_neg hr))));have hr2:33<=(s[k].toNat:Int)/\(s[k].toNat:Int)<=126:=(by omega);clear h92 hr;go_wp2_with (at_builtin;refine QI7 rfl (.tmp 45) (.tmp 47) rfl HO.out rfl _ [s[k]] rfl rfl (by simp only [List.length_cons,List.length_nil];omega) hsz ?_;intro v' w1 ho1 hb1);go_roundw
            case rel=>exact⟨k+1,A++ [s[k]],by omega,by rw [List.length_append];simp;omega,by go_num,ho1,QL4 HE HD.out,HB.out.trans hb1⟩
            case measure=>simp [intOf];omega
      . have h:=Q18 HO.out;have HD:=qh (HS.out A (yI6 HE (by omega)))
        go_wp2
        go_ret2;exact⟨by rw [HD.out.1,HD.out.2];rfl,HB.out⟩
end Go.Proofs.YtngepacmgabmaaaGreatDoor
