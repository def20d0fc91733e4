/- Ranges of bytes (P22), plainly; Walk: nets.Bytes .. -/
import Derived.Test.YtngepacmgabmaaaGreatDoorGak
import Derived.Test.YtngepacmgabmaaaGreatDoorGau
import Derived.Laws.BytesString
namespace Go.Proofs.YtngepacmgabmaaaGreatDoor
open Go.RowKit
set_option linter.unusedVariables false
set_option linter.unusedSimpArgs false
def rgA (x:ByteArray):ByteArray:=(y27 x ⟨#[45]⟩).1
def rgB (x:ByteArray):ByteArray:=if (y27 x ⟨#[45]⟩).2.2=true then (y27 x ⟨#[45]⟩).2.1 else (y27 x ⟨#[45]⟩).1
def yg5 (x:ByteArray):Int:=smN (rgA x) 255
def xf3 (x:ByteArray):Int:=smN (rgB x) 255
def ZM6 (x:ByteArray):Prop:=0<=yg5 x/\yg5 x<=xf3 x
def rgU (L:List ByteArray) (j:Nat):Bool:=L.any λ x=>decide (yg5 x<=(j:Int)/\(j:Int)<=xf3 x)
theorem JG8 (L:List ByteArray) (x:ByteArray) (j:Nat):rgU (L++ [x]) j=(rgU L j||decide (yg5 x<=(j:Int)/\(j:Int)<=xf3 x)):=by
 unfold rgU;rw [List.any_append];simp
theorem Yw5 (x:ByteArray): -1<=yg5 x/\yg5 x<=255/\ -1<=xf3 x/\xf3 x<=255:=by
 have h1:=Ql8 (rgA x) 255 (by omega);have h2:=Ql8 (rgB x) 255 (by omega);exact⟨h1.1,h1.2,h2.1,h2.2⟩
def X93 (s:ByteArray) (w:World) (e:Ending) (w':World):Prop:=
 (((∀ x∈pcs s ⟨#[44]⟩,ZM6 x)/\∃ q,e= .returned (.tuple #[Qj7 q,.int .i64 0])/\SetOf q (rgU (pcs s ⟨#[44]⟩)))\/((∃ x∈pcs s ⟨#[44]⟩,¬ZM6 x)/\e= .returned (.tuple #[Qj7 ⟨0,0,0,0⟩,.int .i64 3])))/\Below w.heap.size w w'
theorem YE3 {L:List ByteArray} {k:Nat} (h:k<L.length):L.take (k+1)=L.take k++ [L[k]]:=List.take_succ_eq_append_getElem h
def orK (q t:Q4) (k:Nat):Q4:=⟨if 0<k then q.a|||t.a else q.a,if 1<k then q.b|||t.b else q.b,if 2<k then q.c|||t.c else q.c,if 3<k then q.d|||t.d else q.d⟩
theorem orK_0 (q t:Q4):orK q t 0=q:=rfl
theorem orK_4 (q t:Q4):orK q t 4=q.or t:=rfl
theorem SetOf.or {q t:Q4} {f g h:Nat->Bool} (hq:SetOf q f) (ht:SetOf t g) (e:∀ b,b<256->h b=(f b||g b)):SetOf (q.or t) h:=
 ⟨Q4.or_ok hq.1 ht.1,λ b hb=>by rw [JY1,hq.2 b hb,ht.2 b hb,e b hb]⟩
structure SR (w:World) (g:Nat) (L:List ByteArray):Prop where
 lt:g<w.heap.size
 cell:∀ k (hk:k<L.length),w.cell? ⟨g,k,none⟩=some (.string L[k])
theorem SR.below {w w':World} {g B:Nat} {L:List ByteArray} (h:SR w g L) (hb:Below B w w') (hB:g<B):SR w' g L:=⟨Nat.lt_of_lt_of_le h.lt hb.size,λ k hk=>(hb.cell (p:=⟨g,k,none⟩) hB).trans (h.cell k hk)⟩
theorem SR.kept {w w':World} {g:Nat} {L:List ByteArray} (h:SR w g L) (hb:Below w.heap.size w w'):SR w' g L:=h.below hb h.lt
theorem SR.far {w:World} {g:Nat} {L:List ByteArray} (h:SR w g L) {p:Addr} (hp:p.block≠g) (v:Value):SR (w.setCell p v) g L:=
 ⟨by simpa [World.setCell] using h.lt,λ k hk=>by rw [World.cell?_setCell_other _ _ _ _ (by intro e;subst e;exact hp rfl)];exact h.cell k hk⟩
theorem SR.drewN {w:World} {g:Nat} {L:List ByteArray} (h:SR w g L) (n:Nat):SR (w.drewN n) g L:=⟨h.lt,h.cell⟩
theorem SR.of_OS {w:World} {B g c:Nat} {L:List ByteArray} (h:OS w B (.slice (some ⟨g,0,none⟩) L.length c) L) (h0:0<L.length):SR w g L:=by
 obtain⟨g',e,_,hlt,_,hc⟩:=h.at_ h0;injection e with e;injection e with e;subst e;exact⟨hlt,hc⟩
theorem Sb2.drewN {w wr:World} {q:Q4} (h:Sb2 w wr q) (n:Nat):Sb2 w (wr.drewN n) q:=⟨h.res,h.set,below_drewN h.be n⟩
theorem km1 (q t:Q4) {k:Nat} (hk:k<4):(orK q t k).word k=q.word k:=by
 obtain rfl|rfl|rfl|rfl:k=0\/k=1\/k=2\/k=3:=by omega
 all_goals rfl
theorem Za0 (q t:Q4) {k:Nat} (hk:k<4):(orK q t k).setW k (q.word k|||t.word k)=orK q t (k+1):=by
 obtain rfl|rfl|rfl|rfl:k=0\/k=1\/k=2\/k=3:=by omega
 all_goals rfl
theorem Sb2.zero_ {w wr:World} {q:Q4} (h:Sb2 w wr q):
 ∃ wz,wz=(((wr.setCell ⟨w.heap.size,0,none⟩ (.int .u64 0)).setCell ⟨w.heap.size,1,none⟩ (.int .u64 0)).setCell ⟨w.heap.size,2,none⟩ (.int .u64 0)).setCell ⟨w.heap.size,3,none⟩ (.int .u64 0)/\Below w.heap.size w wz/\
  wz.cell? ⟨w.heap.size,0,none⟩=some (.int .u64 0)/\wz.cell? ⟨w.heap.size,1,none⟩=some (.int .u64 0)/\wz.cell? ⟨w.heap.size,2,none⟩=some (.int .u64 0)/\wz.cell? ⟨w.heap.size,3,none⟩=some (.int .u64 0):=by
 have h1:SBlk _ _ _:=h.res.setW (k:=0) (by omega) 0;have h2:SBlk _ _ _:=h1.setW (k:=1) (by omega) 0;have h3:SBlk _ _ _:=h2.setW (k:=2) (by omega) 0;have h4:SBlk _ _ _:=h3.setW (k:=3) (by omega) 0;exact⟨_,rfl,(((h.be.setCell (p:=⟨w.heap.size,0,none⟩) (Nat.le_refl _) _).setCell (p:=⟨w.heap.size,1,none⟩) (Nat.le_refl _) _).setCell (p:=⟨w.heap.size,2,none⟩) (Nat.le_refl _) _).setCell (p:=⟨w.heap.size,3,none⟩) (Nat.le_refl _) _,h4.cell (k:=0) (by omega),h4.cell (k:=1) (by omega),h4.cell (k:=2) (by omega),h4.cell (k:=3) (by omega)⟩
structure ResF (w wr:World):Prop where
 r0:wr.cell? ⟨w.heap.size,0,none⟩=some (.int .u64 0)
 r1:wr.cell? ⟨w.heap.size,1,none⟩=some (.int .u64 0)
 r2:wr.cell? ⟨w.heap.size,2,none⟩=some (.int .u64 0)
 r3:wr.cell? ⟨w.heap.size,3,none⟩=some (.int .u64 0)
 f0:wr.frozen? ⟨w.heap.size,0,none⟩=false
 f1:wr.frozen? ⟨w.heap.size,1,none⟩=false
 f2:wr.frozen? ⟨w.heap.size,2,none⟩=false
 f3:wr.frozen? ⟨w.heap.size,3,none⟩=false
theorem Sb2.resF {w wr:World} {q:Q4} (h:Sb2 w wr q):ResF w wr:=
 ⟨h.res.cell (k:=0) (by omega),h.res.cell (k:=1) (by omega),h.res.cell (k:=2) (by omega),h.res.cell (k:=3) (by omega),Blk.frozen h.res 0,Blk.frozen h.res 1,Blk.frozen h.res 2,Blk.frozen h.res 3⟩
theorem Jj1 (a b c d:Int) (w:World):(Instr.index 122 (.agg #[.int .u64 a,.int .u64 b,.int .u64 c,.int .u64 d]) (.int .i64 0)).run Tryz.prog w= .ok (.int .u64 a) w:=by kernel_rfl
theorem X98 (a b c d:Int) (w:World):(Instr.index 122 (.agg #[.int .u64 a,.int .u64 b,.int .u64 c,.int .u64 d]) (.int .i64 1)).run Tryz.prog w= .ok (.int .u64 b) w:=by kernel_rfl
theorem j46 (a b c d:Int) (w:World):(Instr.index 122 (.agg #[.int .u64 a,.int .u64 b,.int .u64 c,.int .u64 d]) (.int .i64 2)).run Tryz.prog w= .ok (.int .u64 c) w:=by kernel_rfl
theorem YU9 (a b c d:Int) (w:World):(Instr.index 122 (.agg #[.int .u64 a,.int .u64 b,.int .u64 c,.int .u64 d]) (.int .i64 3)).run Tryz.prog w= .ok (.int .u64 d) w:=by kernel_rfl
set_option maxRecDepth 100000 in
set_option maxHeartbeats 4000000 in
theorem Jk8 (s:ByteArray) (m:Int) (w:World) (hs:s.size<=1048576) (hm:w.cell? ⟨4,0,none⟩=some (.int .i64 m)):
 Calls Tryz.prog 107 #[.string s] w (X93 s w):=by
 have h0:=World.block_lt_of_cell? _ _ hm;have hS0:=Sb2.start w;obtain⟨W,hW⟩:∃ W,(w.alloc (.cells #[.int .u64 0,.int .u64 0,.int .u64 0,.int .u64 0] 122)).alloc (.cells #[.int .u64 0,.int .u64 0,.int .u64 0,.int .u64 0] 122)=W:=⟨_,rfl⟩;rw [hW] at hS0;have HM:Hid (∀ w',Below w.heap.size w w'->w'.cell? ⟨4,0,none⟩=some (.int .i64 m)):=λ w' hb=>(hb.cell (p:=⟨4,0,none⟩) h0).trans hm
 have CS:=qh (qQ5 s ⟨#[44]⟩ m W hs (HM.out W hS0.be) (by decide));have hWz:w.heap.size+1<W.heap.size:=Blk.lt hS0.set;obtain⟨L,hL⟩:∃ L,L=pcs s ⟨#[44]⟩:=⟨_,rfl⟩;have HLs:Hid (∀ x∈L,x.size<=s.size):=by rw [hL];exact zN9 _ (by decide) s.size s (Nat.le_refl _)
 have hL0:0<L.length:=by rw [hL];exact Qw2 _ _ (by decide)
 have hL1:L.length<=1048577:=by rw [hL];have:=jy8 (s:=s) (t:=⟨#[44]⟩) (by decide);omega
 rw [<-hL] at CS;have HL:=qh hL;have HS0:=qh hS0;clear hL hS0 hm h0;go_enter Tryz.func107,Tryz.ntmps107;go_wp2_with fail;refine CS.out.mono ?_;rintro e w1 ⟨rfl,ho,b1⟩;have HS1:=qh (HS0.out.kept b1);have HO1:=qh (SR.of_OS ho hL0);clear ho b1 CS hW;go_wp2_with fail;go_loopw [17] (λ u wr=>∃ (k:Nat) (q:Q4),u= .int .i64 (k:Int)/\k<=L.length/\Sb2 w wr q/\SR wr W.heap.size L/\Hid (SetOf q (rgU (L.take k)))/\Hid (∀ x∈L.take k,ZM6 x)) (λ u _=>L.length-(intOf u).toNat)
 case atStart=>exact⟨0,_,rfl,by omega,HS1.out,HO1.out,⟨⟨by decide,by decide,by decide,by decide⟩,λ b _=>by rw [jR3];rfl⟩,λ x hx=>absurd hx (by simp)⟩
 case round=>
  clear HS0 HS1 HO1;obtain⟨k,q,rfl,hk,hS,hO,HQ,HA⟩:=hrel;have HS:=qh hS;have HO:=qh hO;by_cases hlk:k<L.length
  . have k1:(k:Int)<(L.length:Int):=(by omega);obtain⟨x,hx⟩:∃ x,x=L[k]:=⟨_,rfl⟩;have y0:wr.cell? ⟨W.heap.size,k,none⟩=some (.string x):=(by rw [hx];exact hO.cell k hlk);have hxs:x.size<=s.size:=HLs.out x (by rw [hx];exact List.getElem_mem _);have CC:=YN5 x ⟨#[45]⟩ m wr (by omega) (HM.out wr hS.be);have hsz:=Jb0 x ⟨#[45]⟩;have hbd:=Yw5 x;have HT:Hid (L.take (k+1)=L.take k++ [x]):=(by show _=_;rw [YE3 hlk,hx]);have HX:Hid (x∈pcs s ⟨#[44]⟩):=(by show _∈_;rw [<-HL.out,hx];exact List.getElem_mem _);have hA:rgA x=(y27 x ⟨#[45]⟩).1:=rfl;have hB:rgB x=if (y27 x ⟨#[45]⟩).2.2=true then (y27 x ⟨#[45]⟩).2.1 else (y27 x ⟨#[45]⟩).1:=rfl
    obtain⟨c1,hc1⟩:∃ c1,c1=(y27 x ⟨#[45]⟩).1:=⟨_,rfl⟩;obtain⟨c2,hc2⟩:∃ c2,c2=(y27 x ⟨#[45]⟩).2.1:=⟨_,rfl⟩;obtain⟨c3,hc3⟩:∃ c3,c3=(y27 x ⟨#[45]⟩).2.2:=⟨_,rfl⟩;rw [<-hc1,<-hc2,<-hc3] at CC hB;rw [<-hc1] at hA;rw [<-hc1,<-hc2] at hsz;obtain⟨hz1,hz2⟩:=hsz;have CN1:=λ w'=>ya2 c1 255 w' (by unfold maxLen;omega)
    obtain⟨lo,hlo⟩:∃ lo,lo=yg5 x:=⟨_,rfl⟩;obtain⟨hi,hhi⟩:∃ hi,hi=xf3 x:=⟨_,rfl⟩;have e1:smN c1 255=lo:=(by rw [hlo];unfold yg5;rw [hA]);rw [e1] at CN1;rw [<-hlo,<-hhi] at hbd;obtain⟨l1,l2,l3,l4⟩:=hbd;have HOK:Hid (ZM6 x<->0<=lo/\lo<=hi):=(by show ZM6 x<->_;unfold ZM6;rw [<-hlo,<-hhi]);have HU:Hid (∀ j,rgU (L.take (k+1)) j=(rgU (L.take k) j||decide (lo<=(j:Int)/\(j:Int)<=hi))):=λ j=>by rw [HT.out,JG8,<-hlo,<-hhi]
    have CN2:Hid (∀ w',Calls Tryz.prog 142 #[.string (if c3=true then c2 else c1),.int .i64 255] w' λ e w''=>e= .returned (.int .i64 hi)/\∃ q,w''=w'.drewN q):=λ w'=>by
     have:=ya2 (rgB x) 255 w' (by rw [hB];unfold maxLen;split<;>omega);rw [hhi];rw [hB] at this;unfold xf3;rw [hB];exact this
    have CN1:=qh CN1;have CC:=qh CC;clear hx hc1 hc2 hc3 hA hB e1 hlo hhi hS hO;go_wp2_with fail;refine CC.out.mono ?_;rintro e w2 ⟨rfl,q2,hq2⟩;have hS2:=HS.out.drewN q2;have hO2:=HO.out.drewN q2;rw [<-hq2] at hS2 hO2;have HS2:=qh hS2;have HO2:=qh hO2;clear hS2 hO2 hq2 HS HO CC y0;cases c3
    all_goals
     simp only [if_true,if_false,Bool.false_eq_true] at CN2;go_wp2_with fail;refine(CN1.out _).mono ?_;rintro e w3 ⟨rfl,q3,hq3⟩;have hS3:=HS2.out.drewN q3;have hO3:=HO2.out.drewN q3;rw [<-hq3] at hS3 hO3;have HS3:=qh hS3;have HO3:=qh hO3;clear hS3 hO3 hq3;go_wp2_with fail;refine(CN2.out _).mono ?_;rintro e w4 ⟨rfl,q4,hq4⟩;have hS4:=HS3.out.drewN q4;have hO4:=HO3.out.drewN q4;rw [<-hq4] at hS4 hO4;have HS4:=qh hS4;have HO4:=qh hO4;have hrf:=hS4.resF;obtain⟨r0,r1,r2,r3,f0,f1,f2,f3⟩:=hrf;clear hS4 hO4 hq4 HS3 HO3;by_cases hok:0<=lo/\lo<=hi
     . obtain⟨g1,g2⟩:=hok
       have HOK1:Hid (∀ y∈L.take (k+1),ZM6 y):=λ y hy=>by
        rw [HT.out,List.mem_append,List.mem_singleton] at hy;rcases hy with hy|rfl
        . exact HA.out y hy
        . exact HOK.out.2 ⟨g1,g2⟩
       obtain⟨a,rfl⟩:=Int.eq_ofNat_of_zero_le g1;obtain⟨b,rfl⟩:=Int.eq_ofNat_of_zero_le (show 0<=hi by omega);have CR:=qh λ w'=>j12 a b (by omega) w' (by omega)
       have d1:¬(a:Int)<0:=(by omega);have d2:¬(b:Int)<(a:Int):=(by omega);go_wp2_with fail;refine(CR.out _).mono ?_;rintro e w5 ⟨t,rfl,hT,b5⟩;have HT5:=qh hT;have HS5:=qh (HS4.out.kept b5);have HO5:=qh (HO4.out.kept b5);clear hT b5 CR r0 r1 r2 r3 f0 f1 f2 f3;unfold Qj7;go_wp2_with fail;obtain⟨wm,rfl⟩:∃ wm:World,wm=wr:=⟨_,rfl⟩;go_loopw [45] (λ u wr=>∃ (j:Nat),u= .int .i64 (j:Int)/\j<=4/\Sb2 w wr (orK q t j)/\SR wr W.heap.size L) (λ u _=>4-(intOf u).toNat)
       case atStart=>exact⟨0,rfl,by omega,by rw [orK_0];exact HS5.out,HO5.out⟩
       case round=>
        obtain⟨j,rfl,hj,hS,hO⟩:=hrel;by_cases hj4:j<4
        . have HN:=hS.setW hj4 (q.word j|||t.word j);rw [Za0 q t hj4] at HN;have HN:=qh HN;have HO6:=qh (hO.far (p:=⟨w.heap.size+1,j,none⟩) (by dsimp only;omega) (.int .u64 ((q.word j|||t.word j:Nat):Int)));have y0:=hS.set.cell hj4;rw [km1 q t hj4] at y0;have y1:wr.frozen? ⟨w.heap.size+1,j,none⟩=false:=Blk.frozen hS.set _;have HV:=qh (bits_or_u64_nat (q.word j) (t.word j) (Q4.word_lt HQ.out.1 _) (Q4.word_lt HT5.out.1 _));clear hS hO;obtain rfl|rfl|rfl|rfl:j=0\/j=1\/j=2\/j=3:=by omega
          . have HV':Hid (bits .or .u64 ((q.word 0:Nat):Int) (t.a:Int)=_):=HV.out;have ix:=Jj1;rw [show ((0:Nat):Int)=0 from rfl];go_wp2_with fail;go_roundw
            case rel=>exact⟨1,by go_num,by omega,by rw [HV'.out];exact HN.out,by rw [HV'.out];exact HO6.out⟩
            case measure=>simp [intOf]
          . have HV':Hid (bits .or .u64 ((q.word 1:Nat):Int) (t.b:Int)=_):=HV.out;have ix:=X98;rw [show ((1:Nat):Int)=1 from rfl];go_wp2_with fail;go_roundw
            case rel=>exact⟨2,by go_num,by omega,by rw [HV'.out];exact HN.out,by rw [HV'.out];exact HO6.out⟩
            case measure=>simp [intOf]
          . have HV':Hid (bits .or .u64 ((q.word 2:Nat):Int) (t.c:Int)=_):=HV.out;have ix:=j46;rw [show ((2:Nat):Int)=2 from rfl];go_wp2_with fail;go_roundw
            case rel=>exact⟨3,by go_num,by omega,by rw [HV'.out];exact HN.out,by rw [HV'.out];exact HO6.out⟩
            case measure=>simp [intOf]
          . have HV':Hid (bits .or .u64 ((q.word 3:Nat):Int) (t.d:Int)=_):=HV.out;have ix:=YU9;rw [show ((3:Nat):Int)=3 from rfl];go_wp2_with fail;go_roundw
            case rel=>exact⟨4,by go_num,by omega,by rw [HV'.out];exact HN.out,by rw [HV'.out];exact HO6.out⟩
            case measure=>simp [intOf]
        . obtain rfl:j=4:=by omega
          have HSo:Hid (SetOf (q.or t) (rgU (L.take (k+1)))):=SetOf.or HQ.out HT5.out λ z _=>by
           rw [HU.out];unfold Xs8;congr 1;rw [Bool.eq_iff_iff,decide_eq_true_eq,decide_eq_true_eq];omega
          rw [orK_4] at hS;have HS7:=qh hS;have HO7:=qh hO;clear hS hO;go_wp2_with fail;go_roundw
          case rel=>exact⟨k+1,q.or t,by go_num,by omega,HS7.out,HO7.out,HSo,HOK1⟩
          case measure=>simp [intOf];omega
     . have HNO:Hid (¬ZM6 x):=λ h=>hok (HOK.out.1 h)
       have hcs:lo<0\/(¬lo<0/\hi<lo):=(by omega);clear hok;rcases hcs with d1|⟨d1,d2⟩
       all_goals
        go_wp2_with fail;obtain⟨wz,hwz,hz,z0,z1,z2,z3⟩:=HS4.out.zero_;rw [<-hwz];refine bodyPost_ret (v:= .tuple #[Qj7 ⟨0,0,0,0⟩,.int .i64 3]) (by simp [results,Tryz.results107,go_sem,z0,z1,z2,z3,Qj7]) rfl ⟨.inr ⟨⟨x,HX.out,HNO.out⟩,rfl⟩,hz⟩
  . obtain rfl:k=L.length:=(by omega);have HTk:Hid (L.take L.length=pcs s ⟨#[44]⟩):=(by show _=_;rw [List.take_length,HL.out]);obtain⟨r0,r1,r2,r3,f0,f1,f2,f3⟩:=hS.resF;obtain⟨y0,y1,y2,y3⟩:=Blk.c4 hS.set;clear hS hO hlk;go_wp2_with fail;obtain⟨wz,hwz,hz,z0,z1,z2,z3⟩:=HS.out.put_;rw [<-hwz];refine bodyPost_ret (v:= .tuple #[Qj7 q,.int .i64 0]) (by simp [results,Tryz.results107,go_sem,z0,z1,z2,z3,Qj7]) rfl ⟨.inl ⟨λ y hy=>HA.out y (by rw [HTk.out];exact hy),q,rfl,by have:=HQ.out;rwa [HTk.out] at this⟩,hz⟩
open Classical in
noncomputable def rxN (s:ByteArray):Nat:=if h:∃ n,FitP n (rd1 s).1 then h.choose else 0
noncomputable def rxE (s:ByteArray):Int:=if 200<s.size then 2 else if ¬(rdY s).e=0 then (rdY s).e else Xm7 (rxN s) (rd1 s).1
theorem Zn1 {n:Nat} {s:ByteArray} (h:s.size<=200->(rdY s).e=0->FitP n (rd1 s).1):(rdR n s).2.2=rxE s/\(rxE s=0->(rdR n s).1=(rd1 s).1/\Xm7 n (rd1 s).1=0/\FitP n (rd1 s).1):=by
 unfold rdR rxE;by_cases h1:200<s.size
 . rw [if_pos h1,if_pos h1];exact⟨rfl,λ h=>absurd h (by decide)⟩
 . rw [if_neg h1,if_neg h1];by_cases h2:(rdY s).e=0
   . have e2:¬¬(rdY s).e=0:=(by simp [h2]);rw [if_neg e2,if_neg e2];have hf:=h (by omega) h2;have he:∃ n,FitP n (rd1 s).1:=⟨n,hf⟩
     have hN:Xm7 (rxN s) (rd1 s).1=Xm7 n (rd1 s).1:=by
      unfold rxN;rw [dif_pos he];exact FitP.same he.choose_spec hf
     rw [hN];by_cases h3:Xm7 n (rd1 s).1=0
     . have e3:¬¬Xm7 n (rd1 s).1=0:=(by simp [h3]);rw [if_neg e3];exact⟨h3.symm,λ _=>⟨rfl,h3,hf⟩⟩
     . rw [if_pos h3];exact⟨rfl,λ h=>absurd h h3⟩
   . rw [if_pos h2,if_pos h2];exact⟨rfl,λ h=>absurd h h2⟩
def YR7 (s:ByteArray) (w:World) (e:Ending) (w':World):Prop:=∃ (x0 x1 x2 x3 x4 at_:Int) (xA:Option Addr) (xl xc:Nat),e= .returned (.tuple #[.agg #[.int .i64 x0,.int .u64 x1,.int .u64 x2,.int .u64 x3,.int .u64 x4,.slice xA xl xc],.int .i64 at_,.int .i64 (rxE s)])/\(rxE s=0->∃ m,RxT w' (λ b=>w.heap.size<=b/\b<w'.heap.size) m (rd1 s).1 [.int .i64 x0,.int .u64 x1,.int .u64 x2,.int .u64 x3,.int .u64 x4,.slice xA xl xc]/\Xm7 m (rd1 s).1=0)/\Below w.heap.size w w'
theorem ZZ4 {s:ByteArray} {w w':World} {e:Ending} (h:RdRes s w e w'):YR7 s w e w':=by
 obtain⟨n,m,x0,x1,x2,x3,x4,xA,xl,xc,he,ht,hf,hb⟩:=h;obtain⟨h1,h2⟩:=Zn1 hf;refine⟨x0,x1,x2,x3,x4,_,xA,xl,xc,by rw [he,h1],λ h0=> ?_,hb⟩;obtain⟨k1,k2,k3⟩:=h2 h0;rw [k1] at ht;refine⟨m,ht,?_⟩;rw [<-k2];exact FitP.same ⟨_,_,_,ht⟩ k3
theorem y56 {W:World} {P:Nat->Prop} {B m:Nat} {r:Rx} {cs:List Value} (ht:RxT W P m r cs) (hP:∀ b,P b->b<B) (hm:Xm7 m r=0):RxC W B m r cs/\∃ q,ReC W B q cs/\q.size<=80:=by
 have hr:=ht.rxC hP;obtain⟨q,hq,_,_,hz,_⟩:=JD0 m r _ 1 0 hr hm (by omega);exact⟨hr,q,hq,by omega⟩
theorem ZV8 {w:World} {B:Nat}:∀ (q:Re) (cs:List Value) (n:Nat),ReC w B q cs->∀ x∈Zv6 q n,x.s.ok
 | .none,_,n,_,x,h=>by simp only [Zv6,List.mem_singleton] at h;subst h;exact q30
 | .empty,_,n,_,x,h=>by simp [Zv6] at h
 | .byte z,_,n,⟨hz,_⟩,x,h=>by simp only [Zv6,List.mem_singleton] at h;subst h;exact hz
 | .beg,_,n,_,x,h=>by simp only [Zv6,List.mem_singleton] at h;subst h;exact q30
 | .fin,_,n,_,x,h=>by simp only [Zv6,List.mem_singleton] at h;subst h;exact q30
 | .cat a b,_,n,⟨A,cap,ca,cb,_,_,_,_,_,h1,h2⟩,x,h=>by
  simp only [Zv6,List.mem_append] at h;exact h.elim (ZV8 a ca _ h1 x) (ZV8 b cb _ h2 x)
 | .alt a b,_,n,⟨A,cap,ca,cb,_,_,_,_,_,h1,h2⟩,x,h=>by
  simp only [Zv6,List.mem_append,List.mem_cons] at h;rcases h with h|h|h|h
  . subst h;exact q30
  . exact ZV8 a ca _ h1 x h
  . subst h;exact q30
  . exact ZV8 b cb _ h2 x h
 | .star a,_,n,⟨A,cap,ca,_,_,_,_,h1⟩,x,h=>by
  simp only [Zv6,List.mem_append,List.mem_cons,List.not_mem_nil,or_false] at h;rcases h with h|h|h
  . subst h;exact q30
  . exact ZV8 a ca _ h1 x h
  . subst h;exact q30
theorem yL0 {w:World} {B:Nat} {q:Re} {cs:List Value} (h:ReC w B q cs):∀ x,x∈zz8 q->x.s.ok:=λ x hx=>by
 unfold zz8 at hx;rcases List.mem_append.1 hx with k|k
 . exact ZV8 q cs 0 h x k
 . rw [List.mem_singleton] at k;subst k;exact q30
theorem zN0 {w:World} {B:Nat} {v:Value} {l:List In} (h:OIn w B v l) (hk:∀ x,x∈l->x.s.ok):∃ A c,v= .slice A l.length c/\InR w w.heap.size A c l:=by
 obtain⟨A,c,rfl⟩:=h.form;refine⟨A,c,rfl,h.reads,Nat.le_refl _,?_,hk⟩;rcases h.2 with⟨_,h2⟩|⟨g,cap,cur,e,_,_,h3,_,_⟩
 . omega
 . injection e with _ _ e;omega
theorem kB3 {w:World} {B:Nat} {v:Value} {l:List ByteArray} (h:OS w B v l):∃ A c,v= .slice A l.length c/\StW w w.heap.size A c l:=by
 obtain⟨A,c,rfl⟩:=h.form;refine⟨A,c,rfl,h.reads,Nat.le_refl _,?_⟩;rcases h.2 with⟨e,h2⟩|⟨g,cap,cur,e,_,_,h3,h4,_⟩
 . injection e with _ _ e;exact⟨by omega,by omega⟩
 . injection e with _ _ e;unfold maxLen at h4;exact⟨by omega,by omega⟩
def phE (s:ByteArray):Int:=if ¬yR7 (pcs s ⟨#[124]⟩)=0 then yR7 (pcs s ⟨#[124]⟩) else if 400<(tx (wsL (pcs s ⟨#[124]⟩)) 40).length then 2 else 0
open Classical in
noncomputable def rgE (s:ByteArray):Int:=if ∀ x∈pcs s ⟨#[44]⟩,ZM6 x then 0 else 3
noncomputable def YX5 (op:Int) (s:ByteArray):Int:=
 if op=1 then rxE s else if op=2 then phE s else if op=7\/op=8\/op=9 then qH0 10 9 s else if op=10 then (zQ7 s).2 else if op=11 then rgE s else if op=12 then (if s.size=0 then 0 else 1) else if 200<s.size then 2 else 0
theorem j67 {s:ByteArray} {w w':World} {e:Ending} (h:X93 s w e w'):∃ v,e= .returned (.tuple #[v,.int .i64 (rgE s)])/\Below w.heap.size w w':=by
 obtain⟨h,hb⟩:=h;unfold rgE;rcases h with⟨h1,q,h2,_⟩|⟨⟨x,hx,h1⟩,h2⟩
 . rw [if_pos h1];exact⟨_,h2,hb⟩
 . rw [if_neg λ k=>h1 (k x hx)];exact⟨_,h2,hb⟩
theorem Je2 {vs:List ByteArray} {w w':World} {e:Ending} (h:QG2 vs w e w'):∃ v,e= .returned (.tuple #[v,.int .i64 (if ¬yR7 vs=0 then yR7 vs else if 400<(tx (wsL vs) 40).length then 2 else 0)])/\Below w.heap.size w w':=by
 obtain⟨hb,h⟩:=h;rcases h with⟨h1,h2⟩|⟨h1,h2,h3⟩|⟨h1,h2,g,c,_,h3,_⟩
 . rw [if_pos h1];exact⟨_,h2,hb⟩
 . rw [if_neg (by simp [h1]),if_pos h2];exact⟨_,h3,hb⟩
 . rw [if_neg (by simp [h1]),if_neg (by omega)];exact⟨_,h3,hb⟩
section
variable (op:Int) (s:ByteArray) (m:Int) (w:World)
set_option maxRecDepth 100000 in
set_option maxHeartbeats 4000000 in
theorem ZC8 (hs:s.size<=1048576) (h1:1<=op) (h2:op<=12) (hm:w.cell? ⟨4,0,none⟩=some (.int .i64 m)):
 Calls Tryz.prog 72 #[.int .i64 op,.string s] w λ e w'=>e= .returned (.int .i64 (YX5 op s))/\Below w.heap.size w w':=by
 have hop:op=1\/op=2\/(op=7\/op=8\/op=9)\/op=10\/op=11\/op=12\/(op=3\/op=4\/op=5\/op=6):=by omega
 obtain⟨R,hR⟩:∃ R,R=YX5 op s:=⟨_,rfl⟩;rw [<-hR];unfold YX5 at hR;rcases hop with rfl|rfl|hop|rfl|rfl|rfl|hop
 . have CP:Hid (Calls Tryz.prog 102 #[.string s] w (YR7 s w)):=qh (by
    by_cases h:200<s.size
    . exact(Xp8 s w h).mono λ _ _=>ZZ4
    . exact(QX8 s w (by omega)).mono λ _ _=>ZZ4)
   unfold YR7 at CP;replace hR:R=rxE s:=hR;rw [<-hR] at CP;clear hR;go_enter Tryz.func72,Tryz.ntmps72;go_wp2_with fail;refine CP.out.mono ?_;rintro e w1 ⟨x0,x1,x2,x3,x4,at_,xA,xl,xc,rfl,hq,b1⟩;have HB1:=qh b1;have HQ:=qh hq;clear b1 hq CP;by_cases h0:R=0
   . have e0:(R !=0)=false:=bne_eq_false_iff_eq.2 h0;have e1:(R==0)=true:=beq_iff_eq.2 h0;obtain⟨m,ht,hm0⟩:=HQ.out h0;obtain⟨hr,q,hq,hz⟩:=y56 (B:=w1.heap.size) ht (λ b hb=>hb.2) hm0;have HRz:=qh h0;clear h0 HQ;have hb2:∀ o:Obj,Below w1.heap.size w1 (w1.alloc o):=λ o=>(Below.refl _ _).alloc (Nat.le_refl _) _
     have CM:=qh λ o:Obj=>Zi7 m (rd1 s).1 q _ w1.heap.size (w1.alloc o) (hr.below (hb2 o)) (hb2 o).size hm0 (hq.below (hb2 o)) hz
     have HOK:=qh (yL0 hq);have HL:=qh (yS1 q hz);have HB2:=qh λ o:Obj=>HB1.out.alloc HB1.out.size o
     clear hr hq hm0 hb2 hz ht;go_wp2_with fail;refine(CM.out _).mono ?_;rintro e w3 ⟨v3,rfl,ho,b3⟩;obtain⟨A3,c3,rfl,hI⟩:=zN0 ho HOK.out;have HB3:=qh ((HB2.out _).trans (b3.mono (HB2.out _).size));have CC:=qh (ko0 (zz8 q) A3 c3 w3.heap.size w3 hI);have hL:Qc7 (zz8 q)=0:=HL.out;rw [hL] at CC;clear ho b3 hI hL;go_wp2_with fail;refine CC.out.mono ?_;rintro e w4 ⟨rfl,b4⟩;have HB4:=qh (HB3.out.trans (b4.mono HB3.out.size));clear b4;go_wp2_with fail;go_ret;exact⟨by rw [HRz.out];rfl,HB4.out⟩
   . have e0:(R !=0)=true:=bne_iff_ne.2 h0;have e1:(R==0)=false:=beq_eq_false_iff_ne.2 h0;clear h0 HQ;go_wp2_with fail;go_ret;exact⟨rfl,HB1.out.alloc HB1.out.size _⟩
 . have CS:=qh (qQ5 s ⟨#[124]⟩ m w hs hm (by decide));replace hR:R=phE s:=hR;have HR:=qh hR;clear hR;go_enter Tryz.func72,Tryz.ntmps72;go_wp2_with fail;refine CS.out.mono ?_;rintro e w1 ⟨rfl,ho,b1⟩;obtain⟨A1,c1,e1,hw⟩:=kB3 ho;rw [e1];have HB1:=qh b1;have CM:=qh ((ZJ7 (pcs s ⟨#[124]⟩) A1 c1 _ w1 hw).mono λ _ _=>Je2);unfold phE at HR;obtain⟨E,hE⟩:∃ E,E=(if ¬yR7 (pcs s ⟨#[124]⟩)=0 then yR7 (pcs s ⟨#[124]⟩) else if 400<(tx (wsL (pcs s ⟨#[124]⟩)) 40).length then 2 else 0):=⟨_,rfl⟩;rw [<-hE] at CM HR;clear ho b1 hw e1 hE;go_wp2_with fail;refine CM.out.mono ?_;rintro e w2 ⟨v2,rfl,b2⟩;have HB2:=qh (HB1.out.trans (b2.mono HB1.out.size));clear b2;go_wp2_with fail;go_ret;exact⟨by rw [HR.out];rfl,HB2.out⟩
 . have CD:=qh (Yj3 s w (by unfold maxLen;omega))
   replace hR:R=qH0 10 9 s:=by
    rcases hop with rfl|rfl|rfl<;>exact hR
   have HR:=qh hR;clear hR;rcases hop with rfl|rfl|rfl
   all_goals
    go_enter Tryz.func72,Tryz.ntmps72;go_wp2_with fail;refine CD.out.mono ?_;rintro e w1 ⟨rfl,rfl⟩;go_wp2_with fail;go_ret;exact⟨by rw [HR.out];rfl,Below.refl _ _⟩
 . have CL:=qh (qX5 s m w hs hm);replace hR:R=(zQ7 s).2:=hR;have HR:=qh hR;clear hR;go_enter Tryz.func72,Tryz.ntmps72;go_wp2_with fail;refine CL.out.mono ?_;rintro e w1 ⟨v1,rfl,_,b1⟩;have HB1:=qh b1;clear b1;go_wp2_with fail;go_ret;exact⟨by rw [HR.out];rfl,HB1.out⟩
 . have CL:=qh ((Jk8 s m w hs hm).mono λ _ _=>j67);replace hR:R=rgE s:=hR;rw [<-hR] at CL;clear hR;go_enter Tryz.func72,Tryz.ntmps72;go_wp2_with fail;refine CL.out.mono ?_;rintro e w1 ⟨v1,rfl,b1⟩;have HB1:=qh b1;clear b1;go_wp2_with fail;go_ret;exact⟨rfl,HB1.out⟩
 . replace hR:R=if s.size=0 then 0 else 1:=hR
   have hE:=isE s;by_cases h0:s.size=0
   focus
    rw [if_pos h0] at hR;rw [dT h0] at hE
   rotate_left
   focus
    rw [if_neg h0] at hR;rw [dF h0] at hE
   all_goals
    have HR:=qh hR;clear hR h0;go_enter Tryz.func72,Tryz.ntmps72;go_wp2_with fail;go_ret;exact⟨by rw [HR.out];rfl,Below.refl _ _⟩
 . replace hR:R=if 200<s.size then 2 else 0:=by
    rcases hop with rfl|rfl|rfl|rfl<;>exact hR
   by_cases h0:200<s.size
   focus
    rw [if_pos h0] at hR;have HR:=qh hR;have d1:(200:Int)<(s.size:Int):=by omega
   rotate_left
   focus
    rw [if_neg h0] at hR;have HR:=qh hR;have d1:¬(200:Int)<(s.size:Int):=by omega
   all_goals
    clear hR h0;rcases hop with rfl|rfl|rfl|rfl
    all_goals
     go_enter Tryz.func72,Tryz.ntmps72;go_wp2_with fail;go_ret;exact⟨by rw [HR.out];rfl,Below.refl _ _⟩
end
theorem XU1 {m:Int} {w:World} (hm:w.cell? ⟨4,0,none⟩=some (.int .i64 m)):ArgOk 72 YX5 w:=λ op s W hb hs h1 h2=>
 ZC8 op s m W hs h1 h2 ((hb.cell (p:=⟨4,0,none⟩) (World.block_lt_of_cell? _ _ hm)).trans hm)
theorem KB1 (W:World) (n:Int):(convert 66 9 (.slice (some ⟨W.heap.size,0,none⟩) 1 1)).run Tryz.prog (W.alloc (.cells #[.int .u8 n] 5))= .ok (.string (str [UInt8.ofNat n.toNat])) (W.alloc (.cells #[.int .u8 n] 5)):=by
 rw [run_convert_bytes_arg (P:=Tryz.prog) _ 66 5 Tryz.underlying66 Tryz.underlying5 W.heap.size 0 1 1 [n] rfl (λ i hi=>by
  obtain rfl:i=0:=by omega
  rw [(Blk.new W 5 #[.int .u8 n]).cell 0];rfl) 9 Tryz.underlying9]
 rfl
theorem qn5 (W:World) (n:Int):(convert 66 9 (.slice (some ⟨W.heap.size,0,none⟩) 1 1)).run Tryz.prog (W.alloc (.cells #[.int .u8 n] 5)).drew= .ok (.string (str [UInt8.ofNat n.toNat])) (W.alloc (.cells #[.int .u8 n] 5)).drew:=KB1 W.drew n
end Go.Proofs.YtngepacmgabmaaaGreatDoor
