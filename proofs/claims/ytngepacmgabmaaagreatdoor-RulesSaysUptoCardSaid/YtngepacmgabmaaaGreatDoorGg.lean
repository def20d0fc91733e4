/- Walks: rules.joined over variables and o; Pipes (P11, P12): words and what is wron .. -/
import Derived.Test.YtngepacmgabmaaaGreatDoorGf
import Derived.StillTailTactics
import Derived.Deep.RegionLaw
namespace Go.Proofs.YtngepacmgabmaaaGreatDoor
open Go.RowKit
set_option linter.unusedVariables false
set_option linter.unusedSimpArgs false
theorem xm0 {N:Nat} {s:List UInt8}:∀ {l:List (List UInt8)},(∀ x∈l,x.length<=N)->(Lib.join l s).length<=l.length*(N+s.length)
 | [],_=>by simp [Lib.join]
 | [a],h=>by
  have:=h a (by simp);have e:Lib.join [a] s=a:=by simp [Lib.join,List.intercalate]
  rw [e,List.length_singleton];omega
 |a::b::r,h=>by
  have h1:=h a (by simp);have h2:=xm0 (s:=s) (l:=b::r) λ x hx=>h x (List.mem_cons_of_mem _ hx)
  have e:Lib.join (a::b::r) s=a++s++Lib.join (b::r) s:=by simp [Lib.join]
  have e3:(a::b::r).length=(b::r).length+1:=rfl;rw [e,List.length_append,List.length_append,e3,Nat.succ_mul];omega
def jnS (l:List ByteArray) (c:UInt8):ByteArray:=str (Lib.join (dl l) [c])
theorem Jr8 {l:List ByteArray} {c:UInt8} {N:Nat} (h:∀ x∈l,x.size<=N):(jnS l c).size<=l.length*(N+1):=by
 have:=xm0 (N:=N) (s:= [c]) (l:=dl l) λ x hx=>by
  obtain⟨y,hy,rfl⟩:=List.mem_map.1 hx;rw [qX6];exact h y hy
 rw [List.length_map] at this;show (Lib.join (dl l) [c]).toArray.size<=_;rw [List.size_toArray];exact this
theorem JV7 {v:Vr} (hk:0<=v.k/\v.k<13) (hm:0<=v.m/\v.m<3) (hn:v.n.size<=1048576):(vTx v).size<=1048600:=by
 have h1:=y91 hk;have h2:=jY3 hm;have h3:yb6.size=1:=rfl;unfold vTx;split
 . rw [ByteArray.size_append];omega
 . rw [ByteArray.size_append,ByteArray.size_append,ByteArray.size_append];omega
theorem j85 {a:Int×Int} (hk:0<=a.1/\a.1<6) (hn:a.2<=9223372036854775807):(aTx a).size<=1048600:=by
 have h1:=y22 hk;have h3:yb6.size=1:=rfl;unfold aTx;split
 . have h2:=y23 a.2 (by omega);rw [ByteArray.size_append,ByteArray.size_append];omega
 . omega
section
variable (l:List Vr) (A:Option Addr) (cap B:Nat) (w:World)
set_option maxRecDepth 100000 in
set_option maxHeartbeats 4000000 in
theorem Qq3 (h:VrR w B A cap l) (hB:B<=w.heap.size) (hl:l.length<=100) (hok:∀ v∈l,(0<=v.k/\v.k<13)/\0<=v.m/\v.m<3):
 Calls Tryz.prog 63 #[.slice A l.length cap,.func (.func 64) #[] #[]] w λ e w'=>e= .returned (.string (jnS (l.map vTx) 44))/\Below w.heap.size w w':=by
 have CV:=qh λ v (hv:v∈l) w' (hb:Below w.heap.size w w')=>qd5 w' v (hok v hv).1 (hok v hv).2 (h.2.2.2 v hv)
 have hsz:(jnS (l.map vTx) 44).size<=(l.map vTx).length*(1048600+1):=Jr8 λ x hx=>by
  obtain⟨v,hv,rfl⟩:=List.mem_map.1 hx;exact JV7 (hok v hv).1 (hok v hv).2 (h.2.2.2 v hv)
 have H:=qh λ w' (hb:Below w.heap.size w w')=>h.below (hb.mono hB)
 obtain⟨R,hR⟩:∃ R,R=jnS (l.map vTx) 44:=⟨_,rfl⟩;rw [<-hR] at hsz⊢;have HR:=qh hR;rw [List.length_map] at hsz;clear h hok hR;go_enter Tryz.func63,Tryz.ntmps63;go_wp2_with fail;go_loopw [5,10] (λ v u wr=>∃ (k:Nat) (A':Option Addr) (c':Nat),u= .int .i64 (k:Int)/\v= .slice A' k c'/\k<=l.length/\Hid (OS wr w.heap.size (.slice A' k c') ((l.take k).map vTx))/\Hid (Below w.heap.size w wr)) (λ _ u _=>l.length-(intOf u).toNat)
 case atStart=>exact⟨0,none,0,rfl,rfl,Nat.zero_le _,qh (OS.nil _ _),qh (Below.refl _ _)⟩
 case round=>
  obtain⟨k,A',c',rfl,rfl,hk,HO,HB⟩:=hrel;by_cases hlt:k<l.length
  . have k1:(k:Int)<(l.length:Int):=(by omega);have k0:(0:Int)<=(k:Int):=(by omega);have kw:IntKind.i64.wrap ((k:Int)+1)=(k:Int)+1:=IntWalk.i64_in _ (by omega);have hu:=List.getElem?_eq_getElem hlt;obtain⟨x,hx⟩:∃ x,x=l[k]:=⟨_,rfl⟩;rw [<-hx] at hu;obtain⟨ad,rfl,hxa,x0,x1,x2,_⟩:=(H.out wr HB.out).cells hlt;rw [<-hx] at x0 x1 x2;have hxb:(ad.add (k*3)).block<wr.heap.size:=World.block_lt_of_cell? _ _ x0;have hs2:=HB.out.size;have HT2:Hid ((l.take (k+1)).map vTx=(l.take k).map vTx++ [vTx x]/\((l.take k).map vTx).length=k):=qh ⟨by rw [List.take_succ_eq_append_getElem hlt,List.map_append,hx];rfl,by rw [List.length_map,List.length_take];omega⟩;obtain⟨W1,hW1⟩:∃ W1,wr.alloc (.cells #[.int .i64 x.k,.int .i64 x.m,.string x.n] 51)=W1:=⟨_,rfl⟩;have hb1:Below wr.heap.size wr W1:=(by rw [<-hW1];exact(Below.refl _ _).alloc (Nat.le_refl _) _);have hk1:Blk W1 wr.heap.size 51 #[.int .i64 x.k,.int .i64 x.m,.string x.n]:=(by rw [<-hW1];exact Blk.new _ _ _);have HO1:Hid (OS W1 w.heap.size (.slice A' k c') ((l.take k).map vTx)):=qh (ji4 HO.out hb1);have HB1:=qh (HB.out.trans (hb1.mono hs2));have C:=qh (CV.out x (by rw [hx];exact List.getElem_mem hlt) W1 HB1.out);obtain⟨t0,t1,t2⟩:=Blk.c3 hk1;clear hu hx hb1 hk1 hxa;go_wp2_with fail;refine C.out.mono ?_;rintro e w2 ⟨rfl,b2⟩;have HO2:Hid (OS w2 w.heap.size (.slice A' ((l.take k).map vTx).length c') ((l.take k).map vTx)):=qh (by rw [HT2.out.2];exact ji4 HO1.out b2);have HB2:=qh (HB1.out.trans (b2.mono HB1.out.size));have hz2:=HB2.out.size;obtain⟨D,hD⟩:∃ D,D=(l.take k).map vTx:=⟨_,rfl⟩;have hDl:D.length=k:=(by rw [hD];exact HT2.out.2);rw [<-hD] at HO2 HT2;clear b2 hD HO HB HO1 HB1;subst hDl;go_wp2_with (first|(at_builtin;refine jN8 rfl (.tmp 14) (.tmp 18) rfl HO2.out rfl (vTx x) rfl (by omega) hz2 ?_;intro v' w4 ho4 hg4 hb4;obtain⟨A4,c4,rfl⟩:=ho4.form;have HO4:=qh ho4;have HB4:=qh (HB2.out.trans hb4);clear ho4 hg4 hb4)|fail);have eL:(D++ [vTx x]).length=D.length+1:=(by simp);rw [eL] at HO4;go_roundw
    case rel=>exact⟨D.length+1,A4,c4,by go_num,rfl,by omega,by rw [HT2.out.1];exact HO4,HB4⟩
    case measure=>simp [intOf];omega
  . obtain rfl:k=l.length:=by omega
    have HO2:Hid (OS wr w.heap.size (.slice A' (l.map vTx).length c') (l.map vTx)):=qh (by
     have h:=HO.out;rw [List.take_length] at h;rw [List.length_map];exact h)
    have CJ:Hid (Calls Tryz.prog 62 #[.slice A' (l.map vTx).length c',.string ⟨#[44]⟩] wr λ e w'=>e= .returned (.string R)/\Below wr.heap.size wr w'):=qh (by
     rw [HR.out]
     exact z71 A' c' (l.map vTx) ⟨#[44]⟩ wr w.heap.size HO2.out (by rw [List.length_map];omega) (by
      have h:=HR.out;have h2:R.size=(Lib.join (dl (l.map vTx)) [44]).length:=(by rw [h];show (Lib.join (dl (l.map vTx)) [44]).toArray.size=_;rw [List.size_toArray]);show (Lib.join (dl (l.map vTx)) [44]).length<=_;omega))
    rw [List.length_map] at CJ;clear HO HO2 hlt;go_wp2_with fail;refine CJ.out.mono ?_;rintro e w2 ⟨rfl,b2⟩;have HB2:=qh (HB.out.trans (b2.mono HB.out.size));clear b2;go_wp2_with fail;go_ret;exact⟨rfl,HB2.out⟩
end
section
variable (l:List (Int×Int)) (A:Option Addr) (cap B:Nat) (w:World)
set_option maxRecDepth 100000 in
set_option maxHeartbeats 4000000 in
theorem yO2 (h:Reads w B 2 A l.length (l.flatMap jQ1)) (hB:B<=w.heap.size) (hl:l.length<=100) (hok:∀ v∈l,(0<=v.1/\v.1<6)/\v.2<=9223372036854775807) (hT:TwI w):
 Calls Tryz.prog 66 #[.slice A l.length cap,.func (.func 67) #[] #[]] w λ e w'=>e= .returned (.string (jnS (l.map aTx) 44))/\Below w.heap.size w w':=by
 have CV:=qh λ v (hv:v∈l) w' (hb:Below w.heap.size w w')=>yr1 w' v (hok v hv).1 (hok v hv).2 (hT.below hb)
 have hsz:(jnS (l.map aTx) 44).size<=(l.map aTx).length*(1048600+1):=Jr8 λ x hx=>by
  obtain⟨v,hv,rfl⟩:=List.mem_map.1 hx;exact j85 (hok v hv).1 (hok v hv).2
 have H:=qh λ w' (hb:Below w.heap.size w w')=>h.below (hb.mono hB)
 obtain⟨R,hR⟩:∃ R,R=jnS (l.map aTx) 44:=⟨_,rfl⟩;rw [<-hR] at hsz⊢;have HR:=qh hR;rw [List.length_map] at hsz;clear h hok hR hT;go_enter Tryz.func66,Tryz.ntmps66;go_wp2_with fail;go_loopw [5,10] (λ v u wr=>∃ (k:Nat) (A':Option Addr) (c':Nat),u= .int .i64 (k:Int)/\v= .slice A' k c'/\k<=l.length/\Hid (OS wr w.heap.size (.slice A' k c') ((l.take k).map aTx))/\Hid (Below w.heap.size w wr)) (λ _ u _=>l.length-(intOf u).toNat)
 case atStart=>exact⟨0,none,0,rfl,rfl,Nat.zero_le _,qh (OS.nil _ _),qh (Below.refl _ _)⟩
 case round=>
  obtain⟨k,A',c',rfl,rfl,hk,HO,HB⟩:=hrel;by_cases hlt:k<l.length
  . have k1:(k:Int)<(l.length:Int):=(by omega);have k0:(0:Int)<=(k:Int):=(by omega);have kw:IntKind.i64.wrap ((k:Int)+1)=(k:Int)+1:=IntWalk.i64_in _ (by omega);have hu:=List.getElem?_eq_getElem hlt;obtain⟨x,hx⟩:∃ x,x=l[k]:=⟨_,rfl⟩;rw [<-hx] at hu;obtain⟨ad,rfl,hxa,x0,x1⟩:=Zk6 (H.out wr HB.out) hlt;rw [<-hx] at x0 x1;have hxb:(ad.add (k*2)).block<wr.heap.size:=World.block_lt_of_cell? _ _ x0;have hs2:=HB.out.size;have HT2:Hid ((l.take (k+1)).map aTx=(l.take k).map aTx++ [aTx x]/\((l.take k).map aTx).length=k):=qh ⟨by rw [List.take_succ_eq_append_getElem hlt,List.map_append,hx];rfl,by rw [List.length_map,List.length_take];omega⟩;obtain⟨W1,hW1⟩:∃ W1,wr.alloc (.cells #[.int .i64 x.1,.int .i64 x.2] 55)=W1:=⟨_,rfl⟩;have hb1:Below wr.heap.size wr W1:=(by rw [<-hW1];exact(Below.refl _ _).alloc (Nat.le_refl _) _);have hk1:Blk W1 wr.heap.size 55 #[.int .i64 x.1,.int .i64 x.2]:=(by rw [<-hW1];exact Blk.new _ _ _);have HO1:Hid (OS W1 w.heap.size (.slice A' k c') ((l.take k).map aTx)):=qh (ji4 HO.out hb1);have HB1:=qh (HB.out.trans (hb1.mono hs2));have C:=qh (CV.out x (by rw [hx];exact List.getElem_mem hlt) W1 HB1.out);obtain⟨t0,t1⟩:=Blk.c2 hk1;clear hu hx hb1 hk1 hxa;go_wp2_with fail;refine C.out.mono ?_;rintro e w2 ⟨rfl,b2⟩;have HO2:Hid (OS w2 w.heap.size (.slice A' ((l.take k).map aTx).length c') ((l.take k).map aTx)):=qh (by rw [HT2.out.2];exact ji4 HO1.out b2);have HB2:=qh (HB1.out.trans (b2.mono HB1.out.size));have hz2:=HB2.out.size;obtain⟨D,hD⟩:∃ D,D=(l.take k).map aTx:=⟨_,rfl⟩;have hDl:D.length=k:=(by rw [hD];exact HT2.out.2);rw [<-hD] at HO2 HT2;clear b2 hD HO HB HO1 HB1;subst hDl;go_wp2_with (first|(at_builtin;refine jN8 rfl (.tmp 14) (.tmp 18) rfl HO2.out rfl (aTx x) rfl (by omega) hz2 ?_;intro v' w4 ho4 hg4 hb4;obtain⟨A4,c4,rfl⟩:=ho4.form;have HO4:=qh ho4;have HB4:=qh (HB2.out.trans hb4);clear ho4 hg4 hb4)|fail);have eL:(D++ [aTx x]).length=D.length+1:=(by simp);rw [eL] at HO4;go_roundw
    case rel=>exact⟨D.length+1,A4,c4,by go_num,rfl,by omega,by rw [HT2.out.1];exact HO4,HB4⟩
    case measure=>simp [intOf];omega
  . obtain rfl:k=l.length:=by omega
    have HO2:Hid (OS wr w.heap.size (.slice A' (l.map aTx).length c') (l.map aTx)):=qh (by
     have h:=HO.out;rw [List.take_length] at h;rw [List.length_map];exact h)
    have CJ:Hid (Calls Tryz.prog 62 #[.slice A' (l.map aTx).length c',.string ⟨#[44]⟩] wr λ e w'=>e= .returned (.string R)/\Below wr.heap.size wr w'):=qh (by
     rw [HR.out]
     exact z71 A' c' (l.map aTx) ⟨#[44]⟩ wr w.heap.size HO2.out (by rw [List.length_map];omega) (by
      have h:=HR.out;have h2:R.size=(Lib.join (dl (l.map aTx)) [44]).length:=(by rw [h];show (Lib.join (dl (l.map aTx)) [44]).toArray.size=_;rw [List.size_toArray]);show (Lib.join (dl (l.map aTx)) [44]).length<=_;omega))
    rw [List.length_map] at CJ;clear HO HO2 hlt;go_wp2_with fail;refine CJ.out.mono ?_;rintro e w2 ⟨rfl,b2⟩;have HB2:=qh (HB.out.trans (b2.mono HB.out.size));clear b2;go_wp2_with fail;go_ret;exact⟨rfl,HB2.out⟩
end
def pwL:List (List UInt8):= [[],[108,111,119,101,114],[117,114,108],[104,101,120],[98,97,115,101],[104,116,109,108],[112,97,116,104],[115,113,117,101,101,122,101],[110,111,110,117,108,108],[116,114,105,109],[108,101,110,103,116,104],[99,109,100]]
def pwB (k:Nat):ByteArray:=str (pwL.getD k [])
set_option maxRecDepth 100000 in
set_option maxHeartbeats 4000000 in
theorem JP4 (k:Nat) (hk:k<12) (w:World):Calls Tryz.prog 84 #[.int .i64 (k:Int)] w λ e w'=>e= .returned (.string (pwB k))/\w=w':=by
 obtain rfl|rfl|rfl|rfl|rfl|rfl|rfl|rfl|rfl|rfl|rfl|rfl:k=0\/k=1\/k=2\/k=3\/k=4\/k=5\/k=6\/k=7\/k=8\/k=9\/k=10\/k=11:=by omega
 . have ix:∀ w,(Instr.index 98 (.agg #[.string ⟨#[]⟩,.string ⟨#[108,111,119,101,114]⟩,.string ⟨#[117,114,108]⟩,.string ⟨#[104,101,120]⟩,.string ⟨#[98,97,115,101]⟩,.string ⟨#[104,116,109,108]⟩,.string ⟨#[112,97,116,104]⟩,.string ⟨#[115,113,117,101,101,122,101]⟩,.string ⟨#[110,111,110,117,108,108]⟩,.string ⟨#[116,114,105,109]⟩,.string ⟨#[108,101,110,103,116,104]⟩,.string ⟨#[99,109,100]⟩]) (.int .i64 0)).run Tryz.prog w= .ok (.string ⟨#[]⟩) w:=λ _=>by kernel_rfl
   go_enter Tryz.func84,Tryz.ntmps84;go_wp2_with fail;go_ret;exact⟨rfl,rfl⟩
 . have ix:∀ w,(Instr.index 98 (.agg #[.string ⟨#[]⟩,.string ⟨#[108,111,119,101,114]⟩,.string ⟨#[117,114,108]⟩,.string ⟨#[104,101,120]⟩,.string ⟨#[98,97,115,101]⟩,.string ⟨#[104,116,109,108]⟩,.string ⟨#[112,97,116,104]⟩,.string ⟨#[115,113,117,101,101,122,101]⟩,.string ⟨#[110,111,110,117,108,108]⟩,.string ⟨#[116,114,105,109]⟩,.string ⟨#[108,101,110,103,116,104]⟩,.string ⟨#[99,109,100]⟩]) (.int .i64 1)).run Tryz.prog w= .ok (.string ⟨#[108,111,119,101,114]⟩) w:=λ _=>by kernel_rfl
   go_enter Tryz.func84,Tryz.ntmps84;go_wp2_with fail;go_ret;exact⟨rfl,rfl⟩
 . have ix:∀ w,(Instr.index 98 (.agg #[.string ⟨#[]⟩,.string ⟨#[108,111,119,101,114]⟩,.string ⟨#[117,114,108]⟩,.string ⟨#[104,101,120]⟩,.string ⟨#[98,97,115,101]⟩,.string ⟨#[104,116,109,108]⟩,.string ⟨#[112,97,116,104]⟩,.string ⟨#[115,113,117,101,101,122,101]⟩,.string ⟨#[110,111,110,117,108,108]⟩,.string ⟨#[116,114,105,109]⟩,.string ⟨#[108,101,110,103,116,104]⟩,.string ⟨#[99,109,100]⟩]) (.int .i64 2)).run Tryz.prog w= .ok (.string ⟨#[117,114,108]⟩) w:=λ _=>by kernel_rfl
   go_enter Tryz.func84,Tryz.ntmps84;go_wp2_with fail;go_ret;exact⟨rfl,rfl⟩
 . have ix:∀ w,(Instr.index 98 (.agg #[.string ⟨#[]⟩,.string ⟨#[108,111,119,101,114]⟩,.string ⟨#[117,114,108]⟩,.string ⟨#[104,101,120]⟩,.string ⟨#[98,97,115,101]⟩,.string ⟨#[104,116,109,108]⟩,.string ⟨#[112,97,116,104]⟩,.string ⟨#[115,113,117,101,101,122,101]⟩,.string ⟨#[110,111,110,117,108,108]⟩,.string ⟨#[116,114,105,109]⟩,.string ⟨#[108,101,110,103,116,104]⟩,.string ⟨#[99,109,100]⟩]) (.int .i64 3)).run Tryz.prog w= .ok (.string ⟨#[104,101,120]⟩) w:=λ _=>by kernel_rfl
   go_enter Tryz.func84,Tryz.ntmps84;go_wp2_with fail;go_ret;exact⟨rfl,rfl⟩
 . have ix:∀ w,(Instr.index 98 (.agg #[.string ⟨#[]⟩,.string ⟨#[108,111,119,101,114]⟩,.string ⟨#[117,114,108]⟩,.string ⟨#[104,101,120]⟩,.string ⟨#[98,97,115,101]⟩,.string ⟨#[104,116,109,108]⟩,.string ⟨#[112,97,116,104]⟩,.string ⟨#[115,113,117,101,101,122,101]⟩,.string ⟨#[110,111,110,117,108,108]⟩,.string ⟨#[116,114,105,109]⟩,.string ⟨#[108,101,110,103,116,104]⟩,.string ⟨#[99,109,100]⟩]) (.int .i64 4)).run Tryz.prog w= .ok (.string ⟨#[98,97,115,101]⟩) w:=λ _=>by kernel_rfl
   go_enter Tryz.func84,Tryz.ntmps84;go_wp2_with fail;go_ret;exact⟨rfl,rfl⟩
 . have ix:∀ w,(Instr.index 98 (.agg #[.string ⟨#[]⟩,.string ⟨#[108,111,119,101,114]⟩,.string ⟨#[117,114,108]⟩,.string ⟨#[104,101,120]⟩,.string ⟨#[98,97,115,101]⟩,.string ⟨#[104,116,109,108]⟩,.string ⟨#[112,97,116,104]⟩,.string ⟨#[115,113,117,101,101,122,101]⟩,.string ⟨#[110,111,110,117,108,108]⟩,.string ⟨#[116,114,105,109]⟩,.string ⟨#[108,101,110,103,116,104]⟩,.string ⟨#[99,109,100]⟩]) (.int .i64 5)).run Tryz.prog w= .ok (.string ⟨#[104,116,109,108]⟩) w:=λ _=>by kernel_rfl
   go_enter Tryz.func84,Tryz.ntmps84;go_wp2_with fail;go_ret;exact⟨rfl,rfl⟩
 . have ix:∀ w,(Instr.index 98 (.agg #[.string ⟨#[]⟩,.string ⟨#[108,111,119,101,114]⟩,.string ⟨#[117,114,108]⟩,.string ⟨#[104,101,120]⟩,.string ⟨#[98,97,115,101]⟩,.string ⟨#[104,116,109,108]⟩,.string ⟨#[112,97,116,104]⟩,.string ⟨#[115,113,117,101,101,122,101]⟩,.string ⟨#[110,111,110,117,108,108]⟩,.string ⟨#[116,114,105,109]⟩,.string ⟨#[108,101,110,103,116,104]⟩,.string ⟨#[99,109,100]⟩]) (.int .i64 6)).run Tryz.prog w= .ok (.string ⟨#[112,97,116,104]⟩) w:=λ _=>by kernel_rfl
   go_enter Tryz.func84,Tryz.ntmps84;go_wp2_with fail;go_ret;exact⟨rfl,rfl⟩
 . have ix:∀ w,(Instr.index 98 (.agg #[.string ⟨#[]⟩,.string ⟨#[108,111,119,101,114]⟩,.string ⟨#[117,114,108]⟩,.string ⟨#[104,101,120]⟩,.string ⟨#[98,97,115,101]⟩,.string ⟨#[104,116,109,108]⟩,.string ⟨#[112,97,116,104]⟩,.string ⟨#[115,113,117,101,101,122,101]⟩,.string ⟨#[110,111,110,117,108,108]⟩,.string ⟨#[116,114,105,109]⟩,.string ⟨#[108,101,110,103,116,104]⟩,.string ⟨#[99,109,100]⟩]) (.int .i64 7)).run Tryz.prog w= .ok (.string ⟨#[115,113,117,101,101,122,101]⟩) w:=λ _=>by kernel_rfl
   go_enter Tryz.func84,Tryz.ntmps84;go_wp2_with fail;go_ret;exact⟨rfl,rfl⟩
 . have ix:∀ w,(Instr.index 98 (.agg #[.string ⟨#[]⟩,.string ⟨#[108,111,119,101,114]⟩,.string ⟨#[117,114,108]⟩,.string ⟨#[104,101,120]⟩,.string ⟨#[98,97,115,101]⟩,.string ⟨#[104,116,109,108]⟩,.string ⟨#[112,97,116,104]⟩,.string ⟨#[115,113,117,101,101,122,101]⟩,.string ⟨#[110,111,110,117,108,108]⟩,.string ⟨#[116,114,105,109]⟩,.string ⟨#[108,101,110,103,116,104]⟩,.string ⟨#[99,109,100]⟩]) (.int .i64 8)).run Tryz.prog w= .ok (.string ⟨#[110,111,110,117,108,108]⟩) w:=λ _=>by kernel_rfl
   go_enter Tryz.func84,Tryz.ntmps84;go_wp2_with fail;go_ret;exact⟨rfl,rfl⟩
 . have ix:∀ w,(Instr.index 98 (.agg #[.string ⟨#[]⟩,.string ⟨#[108,111,119,101,114]⟩,.string ⟨#[117,114,108]⟩,.string ⟨#[104,101,120]⟩,.string ⟨#[98,97,115,101]⟩,.string ⟨#[104,116,109,108]⟩,.string ⟨#[112,97,116,104]⟩,.string ⟨#[115,113,117,101,101,122,101]⟩,.string ⟨#[110,111,110,117,108,108]⟩,.string ⟨#[116,114,105,109]⟩,.string ⟨#[108,101,110,103,116,104]⟩,.string ⟨#[99,109,100]⟩]) (.int .i64 9)).run Tryz.prog w= .ok (.string ⟨#[116,114,105,109]⟩) w:=λ _=>by kernel_rfl
   go_enter Tryz.func84,Tryz.ntmps84;go_wp2_with fail;go_ret;exact⟨rfl,rfl⟩
 . have ix:∀ w,(Instr.index 98 (.agg #[.string ⟨#[]⟩,.string ⟨#[108,111,119,101,114]⟩,.string ⟨#[117,114,108]⟩,.string ⟨#[104,101,120]⟩,.string ⟨#[98,97,115,101]⟩,.string ⟨#[104,116,109,108]⟩,.string ⟨#[112,97,116,104]⟩,.string ⟨#[115,113,117,101,101,122,101]⟩,.string ⟨#[110,111,110,117,108,108]⟩,.string ⟨#[116,114,105,109]⟩,.string ⟨#[108,101,110,103,116,104]⟩,.string ⟨#[99,109,100]⟩]) (.int .i64 10)).run Tryz.prog w= .ok (.string ⟨#[108,101,110,103,116,104]⟩) w:=λ _=>by kernel_rfl
   go_enter Tryz.func84,Tryz.ntmps84;go_wp2_with fail;go_ret;exact⟨rfl,rfl⟩
 . have ix:∀ w,(Instr.index 98 (.agg #[.string ⟨#[]⟩,.string ⟨#[108,111,119,101,114]⟩,.string ⟨#[117,114,108]⟩,.string ⟨#[104,101,120]⟩,.string ⟨#[98,97,115,101]⟩,.string ⟨#[104,116,109,108]⟩,.string ⟨#[112,97,116,104]⟩,.string ⟨#[115,113,117,101,101,122,101]⟩,.string ⟨#[110,111,110,117,108,108]⟩,.string ⟨#[116,114,105,109]⟩,.string ⟨#[108,101,110,103,116,104]⟩,.string ⟨#[99,109,100]⟩]) (.int .i64 11)).run Tryz.prog w= .ok (.string ⟨#[99,109,100]⟩) w:=λ _=>by kernel_rfl
   go_enter Tryz.func84,Tryz.ntmps84;go_wp2_with fail;go_ret;exact⟨rfl,rfl⟩
def yI5 (zs:List Int):List ByteArray:=zs.map λ z=>pwB z.toNat
theorem jt7 {zs:List Int} {k:Nat} (h:k<zs.length):yI5 (zs.take (k+1))=yI5 (zs.take k)++ [pwB zs[k].toNat]:=by
 unfold yI5;rw [List.take_succ_eq_append_getElem h,List.map_append];rfl
theorem Xh0 (zs:List Int):(yI5 zs).length=zs.length:=by unfold yI5;rw [List.length_map]
def xw9 (zs:List Int):List UInt8:=if zs.length=0 then [45] else Lib.join (dl (yI5 zs)) [44]
theorem X92 (k:Nat):(pwB k).size<=7:=by
 by_cases h:k<12
 . obtain rfl|rfl|rfl|rfl|rfl|rfl|rfl|rfl|rfl|rfl|rfl|rfl:k=0\/k=1\/k=2\/k=3\/k=4\/k=5\/k=6\/k=7\/k=8\/k=9\/k=10\/k=11:=by omega
   all_goals decide
 . have:pwL.getD k []= []:=(by unfold List.getD;rw [List.getElem?_eq_none (by show 12<=k;omega)];rfl);unfold pwB;rw [this];decide
theorem JD4 (sep:List UInt8) (n m:Nat) (hs:sep.length<=m):∀ L:List (List UInt8),(∀ x∈L,x.length<=n)->(Lib.joinTail sep L).length<=L.length*(n+m)
 | [],_=>by simp [Lib.joinTail]
 |x::L,h=>by
  have h1:=JD4 sep n m hs L λ y hy=>h y (List.mem_cons_of_mem _ hy)
  have h2:=h x List.mem_cons_self;have e1:Lib.joinTail sep (x::L)=sep++x++Lib.joinTail sep L:=by unfold Lib.joinTail;rw [List.map_cons,List.flatten_cons]
  rw [e1];simp only [List.length_append,List.length_cons];rw [Nat.add_mul,Nat.one_mul];generalize L.length*(n+m)=P at h1⊢;omega
theorem yq3 (sep:List UInt8) (n m:Nat) (hs:sep.length<=m) (L:List (List UInt8)) (h:∀ x∈L,x.length<=n):(Lib.join L sep).length<=L.length*(n+m):=by
 cases L with
 |nil=>simp [Lib.join]
 |cons x L=>
  have h1:=JD4 sep n m hs L λ y hy=>h y (List.mem_cons_of_mem _ hy)
  have h2:=h x List.mem_cons_self;rw [Lib.join_cons];simp only [List.length_append,List.length_cons];rw [Nat.add_mul,Nat.one_mul];generalize L.length*(n+m)=P at h1⊢;omega
theorem JN4 (zs:List Int) (h:zs.length<=8):(Lib.join (dl (yI5 zs)) [44]).length<=140737488355320:=by
 have:=yq3 [44] 7 1 (by decide) (dl (yI5 zs)) (λ x hx=>by
  obtain⟨b,hb,rfl⟩:=List.mem_map.1 hx;obtain⟨z,_,rfl⟩:=List.mem_map.1 hb;rw [qX6];exact X92 _)
 have h2:(dl (yI5 zs)).length=zs.length:=by unfold dl;rw [List.length_map,Xh0]
 omega
section
variable (zs:List Int) (A:Option Addr) (c:Nat) (w:World)
theorem xJ4 {zs:List Int} (h:yU7 zs=0):zs.length<=8/\∀ k (hk:k<zs.length),∃ n:Nat,zs[k]=(n:Int)/\1<=n/\n<=11:=by
 unfold yU7 at h;by_cases h1:8<zs.length
 . rw [if_pos h1] at h;cases h
 . rw [if_neg h1] at h;by_cases h2:zs.all okP=true
   . refine⟨by omega,λ k hk=> ?_⟩;rw [List.all_eq_true] at h2;have:=of_decide_eq_true (h2 zs[k] (List.getElem_mem hk));exact⟨zs[k].toNat,by omega,by omega,by omega⟩
   . rw [if_neg h2] at h;cases h
set_option maxHeartbeats 2000000 in
theorem Ko0 (h:IR w A zs) (hl:zs.length<=9223372036854775807) (h0:yU7 zs=0):
 Calls Tryz.prog 61 #[.slice A zs.length c] w λ e w'=>e= .returned (.tuple #[.string (str (xw9 zs)),.int .i64 0])/\Below w.heap.size w w':=by
 have C:=qA0 zs A c w h hl;rw [h0] at C;have C:=qh C;obtain⟨h8,hA⟩:=xJ4 h0;have HA:=qh hA;have HR:=qh h;clear h0 h hA;by_cases hz:zs.length=0
 . have e1:((zs.length:Int)==0)=true:=(by rw [beq_iff_eq];omega);have HT:Hid (xw9 zs= [45]):=(by show _=_;unfold xw9;rw [if_pos hz]);clear hz;go_enter Tryz.func61,Tryz.ntmps61;go_wp2_with fail;refine C.out.mono ?_;rintro e w1 ⟨rfl,rfl⟩;go_wp2_with fail;go_ret2;exact⟨by rw [HT.out];rfl,Below.refl _ _⟩
 . have e1:((zs.length:Int)==0)=false:=(by rw [beq_eq_false_iff_ne];omega);have HT:Hid (xw9 zs=Lib.join (dl (yI5 zs)) [44]):=(by show _=_;unfold xw9;rw [if_neg hz]);have hz1:0<zs.length:=(by omega);clear hz;go_enter Tryz.func61,Tryz.ntmps61;go_wp2_with fail;refine C.out.mono ?_;rintro e w1 ⟨rfl,rfl⟩;go_wp2_with fail;go_loopw [5,18] (λ v u wr=>∃ k:Nat,u= .int .i64 (k:Int)/\k<=zs.length/\OS wr w.heap.size v (yI5 (zs.take k))/\Below w.heap.size w wr) (λ _ u _=>zs.length-(intOf u).toNat)
   case atStart=>exact⟨0,rfl,by omega,OS.nil _ _,Below.refl _ _⟩
   case round=>
    obtain⟨k,rfl,hk,ho,hb⟩:=hrel;have hsz:=hb.size;have HO:=qh ho;have HB:=qh hb;by_cases hlk:k<zs.length
    . have k1:(k:Int)<(zs.length:Int):=(by omega);have k2:(0:Int)<=(k:Int):=(by omega);obtain⟨ad,rfl,hab,y0⟩:=(HR.out.below hb).at_ hlk;obtain⟨n,hn,n1,n2⟩:=HA.out k hlk;rw [hn] at y0;have HW:Hid (yI5 (zs.take (k+1))=yI5 (zs.take k)++ [pwB n]):=(by show _=_;rw [jt7 hlk,hn];rfl);have hwl:(yI5 (zs.take k)).length<=8:=(by rw [Xh0,List.length_take];omega);have CW:=qh λ w'=>JP4 n (by omega) w'
      clear ho hb hn;go_wp2_with fail;refine(CW.out _).mono ?_;rintro e w2 ⟨rfl,rfl⟩;go_wp2_with (at_builtin;refine jN8 rfl (.tmp 22) (.tmp 25) rfl HO.out rfl (pwB n) rfl (by omega) hsz ?_;intro v' w2 ho2 hg2 hb2;have HO2:=qh ho2;have HB2:=qh hb2;clear ho2 hg2 hb2);go_roundw
      case rel=>exact⟨k+1,by go_num,by omega,by rw [HW.out];exact HO2.out,HB.out.trans HB2.out⟩
      case measure=>simp [intOf];omega
    . obtain rfl:k=zs.length:=(by omega);rw [List.take_length] at HO;obtain⟨A',c',rfl⟩:=HO.out.form;rw [Xh0] at HO⊢;have CJ:=z71 A' c' (yI5 zs) ⟨#[44]⟩ wr w.heap.size (by rw [Xh0];exact HO.out) (by rw [Xh0];omega) (JN4 zs h8);rw [Xh0] at CJ;have CJ:=qh CJ;clear ho hb hlk;go_wp2_with fail;refine CJ.out.mono ?_;rintro e w2 ⟨rfl,b2⟩;have HB2:=qh (HB.out.trans (b2.mono hsz));clear b2;go_wp2_with fail;go_ret2;exact⟨by rw [HT.out];rfl,HB2.out⟩
def PW (w:World):Prop:=3<w.heap.size/\∀ k,k<12->w.cell? ⟨3,k,none⟩=some (.string (pwB k))
theorem PW.below {w w':World} (h:PW w) (hb:Below w.heap.size w w'):PW w':=⟨Nat.lt_of_lt_of_le h.1 hb.size,λ k hk=>(hb.cell (p:=⟨3,k,none⟩) h.1).trans (h.2 k hk)⟩
set_option maxHeartbeats 2000000 in
theorem ye2 (h:IR w A zs) (hP:PW w) (h0:yU7 zs=0):
 Calls Tryz.prog 29 #[.slice A zs.length c] w λ e w'=>e= .returned (.string (str (xw9 zs)))/\Below w.heap.size w w':=by
 obtain⟨h8,hA⟩:=xJ4 h0;have HA:=qh hA;have HR:=qh h;have HP:=qh hP;clear h0 h hA hP;by_cases hz:zs.length=0
 . have e1:((zs.length:Int)==0)=true:=(by rw [beq_iff_eq];omega);have HT:Hid (xw9 zs= [45]):=(by show _=_;unfold xw9;rw [if_pos hz]);clear hz;go_enter Tryz.func29,Tryz.ntmps29;go_wp2_with fail;go_ret;exact⟨by rw [HT.out];rfl,Below.refl _ _⟩
 . have e1:((zs.length:Int)==0)=false:=(by rw [beq_eq_false_iff_ne];omega);have HT:Hid (xw9 zs=Lib.join (dl (yI5 zs)) [44]):=(by show _=_;unfold xw9;rw [if_neg hz]);have hz1:0<zs.length:=(by omega);clear hz;go_enter Tryz.func29,Tryz.ntmps29;go_wp2_with fail;go_loopw [3,4] (λ v u wr=>∃ k:Nat,u= .int .i64 (k:Int)/\k<=zs.length/\OS wr w.heap.size v (yI5 (zs.take k))/\Below w.heap.size w wr) (λ _ u _=>zs.length-(intOf u).toNat)
   case atStart=>exact⟨0,rfl,by omega,OS.nil _ _,Below.refl _ _⟩
   case round=>
    obtain⟨k,rfl,hk,ho,hb⟩:=hrel;have hsz:=hb.size;have HO:=qh ho;have HB:=qh hb;by_cases hlk:k<zs.length
    . have k1:(k:Int)<(zs.length:Int):=(by omega);have k2:(0:Int)<=(k:Int):=(by omega);obtain⟨ad,rfl,hab,y0⟩:=(HR.out.below hb).at_ hlk;obtain⟨n,hn,n1,n2⟩:=HA.out k hlk;rw [hn] at y0;have n3:(n:Int)<12:=(by omega);have n4:(0:Int)<=(n:Int):=(by omega);have y1:=(HP.out.below hb).2 n (by omega);have HW:Hid (yI5 (zs.take (k+1))=yI5 (zs.take k)++ [pwB n]):=(by show _=_;rw [jt7 hlk,hn];rfl);have hwl:(yI5 (zs.take k)).length<=8:=(by rw [Xh0,List.length_take];omega);clear ho hb hn;go_wp2_with (at_builtin;refine jN8 rfl (.tmp 14) (.tmp 21) rfl HO.out rfl (pwB n) rfl (by omega) hsz ?_;intro v' w2 ho2 hg2 hb2;have HO2:=qh ho2;have HB2:=qh hb2;clear ho2 hg2 hb2);go_roundw
      case rel=>exact⟨k+1,by go_num,by omega,by rw [HW.out];exact HO2.out,HB.out.trans HB2.out⟩
      case measure=>simp [intOf];omega
    . obtain rfl:k=zs.length:=(by omega);rw [List.take_length] at HO;obtain⟨A',c',rfl⟩:=HO.out.form;rw [Xh0] at HO⊢;have CJ:=z16 A' c' (yI5 zs) ⟨#[44]⟩ wr w.heap.size (by rw [Xh0];exact HO.out) (JN4 zs h8);rw [Xh0] at CJ;have CJ:=qh CJ;clear ho hb hlk;go_wp2_with fail;refine CJ.out.mono ?_;rintro e w2 ⟨rfl,rfl⟩;go_wp2_with fail;go_ret;exact⟨by rw [HT.out];rfl,HB.out⟩
end
def ixb (l:List UInt8) (n:Int):Int:=Lib.indexByte l n.toNat.toUInt8
theorem qP2 (s:ByteArray) (l:List UInt8) (h:s.data.toList=l) (n:Int) (w:World):
 Calls Tryz.prog 98 #[.string s,.int .u8 n] w λ e w'=>e= .returned (.int .i64 (ixb l n))/\w=w':=
 (Tryz.strings_IndexByte s n w).mono λ _ _ hh=>⟨by rw [hh.1,h];rfl,hh.2.symm⟩

theorem z87 {f:UInt8->List UInt8} {s:ByteArray} {k:Nat} (h:k<s.size):(s.data.toList.take (k+1)).flatMap f=(s.data.toList.take k).flatMap f++f s[k]:=by
 rw [Zp9 s k h,List.flatMap_append];simp
theorem J09 {f:UInt8->List UInt8} {m:Nat} (hf:∀ b,(f b).length<=m) (l:List UInt8):(l.flatMap f).length<=m*l.length:=by
 induction l with
 |nil=>simp
 |cons b l ih=>have:=hf b;rw [List.flatMap_cons,List.length_append,List.length_cons,Nat.mul_add];omega
theorem KM4:∀ b:UInt8,bits .and .u8 (b.toNat:Int) 15=((b.toNat%16:Nat):Int):=k73 (by decide+kernel)
set_option maxHeartbeats 400000 in
theorem x05 (n:Int) (s:ByteArray) (w:World) (hs:16<=s.size) (hs2:s.size<=maxLen) (h0:0<=n) (h1:n<=255):
 Calls Tryz.prog 59 #[.int .u8 n,.string s] w λ e w'=>e= .returned (.string (str [s.data.toList.getD (n/16).toNat 0,s.data.toList.getD (n%16).toNat 0]))/\∃ q,w'=w.drewN q:=by
 unfold maxLen at hs2;have a1:0<=n/16:=by omega
 have a2:n/16+1<=(s.size:Int):=by omega
 have a3:0<=n%16:=by omega
 have a4:n%16+1<=(s.size:Int):=by omega
 have a5:n/16<=n/16+1:=by omega
 have a6:n%16<=n%16+1:=by omega
 go_enter Tryz.func59,Tryz.ntmps59
 go_wp2
 go_quiet (fail)
 go_wp2
 go_ret;refine⟨Zf7 ?_,_,rfl⟩;apply zH9
 rw [Qr0,Yz8,Yz8,Qe9,show (n/16+1).toNat=(n/16).toNat+1 from by omega,show (n%16+1).toNat=(n%16).toNat+1 from by omega,
  JZ6 (by rw [qX6];omega),JZ6 (by rw [qX6];omega)]
 rfl

def Jq5:List UInt8:= [48,49,50,51,52,53,54,55,56,57,97,98,99,100,101,102]
theorem yZ7:∀ k:Fin 16,((ByteArray.mk #[48,49,50,51,52,53,54,55,56,57,97,98,99,100,101,102])[k.val]'(by rw [XX6];exact k.isLt))=Jq5.getD k.val 0:=by decide+kernel
theorem Yv8 (i:Nat) (h:i<(ByteArray.mk #[48,49,50,51,52,53,54,55,56,57,97,98,99,100,101,102]).size) (j:Nat) (e:i=j):((ByteArray.mk #[48,49,50,51,52,53,54,55,56,57,97,98,99,100,101,102])[i]'h)=Jq5.getD j 0:=by
 subst e;exact yZ7 ⟨i,h⟩
end Go.Proofs.YtngepacmgabmaaaGreatDoor
