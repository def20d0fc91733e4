/- Walks: rex.Check, wickref.Rex (printed by gen_rexc.py). -/
import Derived.Test.YtngepacmgabmaaaGreatDoorGq
import Derived.Laws.EntriesVeiled
namespace Go.Proofs.YtngepacmgabmaaaGreatDoor
open Go.RowKit
set_option linter.unusedVariables false
set_option linter.unusedSimpArgs false
def Xm7 (n:Nat) (r:Rx):Int:=(chk n r 1 0).1
theorem qG8 (n:Nat) (r:Rx) (cs:List Value) (B:Nat) (w:World) (h:RxC w B n r cs) (hB:B<=w.heap.size):
 Calls Tryz.prog 134 #[.agg cs.toArray] w λ e w'=>e= .returned (.int .i64 (Xm7 n r))/\Below w.heap.size w w':=by
 obtain⟨c0,c1,c2,c3,c4,A5,l5,cap5,rfl⟩:=h.six;obtain⟨W1,hW1⟩:∃ W1,W1=(w.alloc (.cells #[.int .i64 c0,.int .u64 c1,.int .u64 c2,.int .u64 c3,.int .u64 c4,.slice A5 l5 cap5] 125)).alloc (.cells #[.int .i64 0] 3):=⟨_,rfl⟩;have HW1:=qh hW1
 have HC:Hid (Calls Tryz.prog 160 #[.agg #[.int .i64 c0,.int .u64 c1,.int .u64 c2,.int .u64 c3,.int .u64 c4,.slice A5 l5 cap5],.int .i64 1,.pointer (some ⟨w.heap.size+1,0,none⟩)] W1 (Yk8 (chk n r 1 0) (w.heap.size+1) W1)):=by
  have hb:Blk W1 (w.heap.size+1) 3 #[.int .i64 ((0:Nat):Int)]:=by rw [hW1];have:=Blk.new (w.alloc (.cells #[.int .i64 c0,.int .u64 c1,.int .u64 c2,.int .u64 c3,.int .u64 c4,.slice A5 l5 cap5] 125)) 3 #[.int .i64 0];simpa using this
  exact Za8 n r _ 1 0 (w.heap.size+1) B W1 (by rw [hW1];exact(h.alloc hB _).alloc (by simp;omega) _) (by omega) hb (by omega) (by omega) (by omega)
 clear h hW1;go_enter Tryz.func134,Tryz.ntmps134;go_wp2_with fail;rw [<-HW1.out];refine HC.out.mono ?_;rintro e w2 ⟨rfl,hb2,hk2⟩
 have HB2:Hid (Below w.heap.size w w2):=by
  have h1:Below w.heap.size w W1:=by rw [HW1.out];exact((Below.refl _ _).alloc (Nat.le_refl _) _).alloc (by simp) _
  exact h1.trans (hk2.below h1.size (by omega))
 clear hb2 hk2;go_wp2_with fail;go_ret;exact⟨rfl,HB2.out⟩
abbrev zJ8 (g gl:Nat):Array Value:=#[.func (.func 150) #[] #[.pointer (some ⟨g,0,none⟩),.pointer (some ⟨gl,0,none⟩)]]
def kX2 (n:Nat):Prop:=∀ (r:Rx) (cs:List Value) (deep:Int) (m g gl B:Nat) (w:World),RxC w B n r cs->B<=g->gl≠g->Blk w g 3 #[.int .i64 (m:Int)]->Blk w gl 197 (zJ8 g gl)->m<=80->0<=deep->deep<=21->
 Calls Tryz.prog 150 #[.agg cs.toArray,.int .i64 deep,.pointer (some ⟨g,0,none⟩),.pointer (some ⟨gl,0,none⟩)] w (Yk8 (chk n r deep m) g w)
theorem jo3 {k:Int} {s:Q4} {ks:List Rx} (h:Z72 k=(ks.length:Int)) (b:Bool) (h2:okR (.mk k s ks)=b):((!((s.a:Int)==0&&((s.b:Int)==0&&((s.c:Int)==0&&(s.d:Int)==0)))) !=(k==3))= !b:=by
 rw [XY5 h] at h2;subst h2;cases (k==3)<;>cases ((s.a:Int)==0&&((s.b:Int)==0&&((s.c:Int)==0&&(s.d:Int)==0)))<;>rfl
theorem X84 {k:Int} {s:Q4} {ks:List Rx} (h:Z72 k=(ks.length:Int)) (b:Bool) (h2:okR (.mk k s ks)=b):((!((s.a:Int)==0)||(!((s.b:Int)==0)||(!((s.c:Int)==0)|| !((s.d:Int)==0))))==(k==3))=b:=by
 have:=jo3 h b h2
 revert this
 cases (k==3)<;>cases ((s.a:Int)==0)<;>cases ((s.b:Int)==0)<;>cases ((s.c:Int)==0)<;>cases ((s.d:Int)==0)<;>cases b<;>intro h<;>first|rfl|exact absurd h (by decide)
theorem XZ2 {k:Int} (h:k=1\/k=2\/k=3\/k=7\/k=8):Z72 k=0/\¬k<1/\¬8<k/\¬k=4/\¬k=5/\¬k=6:=by
 rcases h with rfl|rfl|rfl|rfl|rfl<;>decide
theorem J66 {a b:Int} (h:a=b):(a==b)=true:=beq_iff_eq.2 h
theorem KP6 {a b:Int} (h:¬a=b):(a !=b)=true:=bne_iff_ne.2 h
theorem Yr6 {a b:Int} (h:a=b):(a !=b)=false:=by rw [bne,J66 h];rfl
section
variable (n:Nat) (k:Int) (s:Q4) (ks:List Rx) (deep:Int) (m g gl B cap:Nat) (A:Option Addr) (w:World)
set_option maxRecDepth 100000 in
set_option maxHeartbeats 1000000 in
theorem Kx5 (HI:Hid (kX2 n)) (h4:k=4)
 (hs:s.ok) (hk: -9223372036854775808<=k/\k<=9223372036854775807) (hlc:ks.length<=cap) (hcap:cap<=9223372036854775807) (hblk:0<ks.length->∃ ad,A=some ad/\ad.block<B)
 (hel:∀ i x,ks[i]? =some x->∃ ad cs',A=some ad/\(∀ j u,cs'[j]? =some u->w.cell? (ad.add (i*6+j))=some u)/\RxC w B n x cs')
 (hBg:B<=g) (hne:gl≠g) (hB:Blk w g 3 #[.int .i64 (m:Int)]) (hL:Blk w gl 197 (zJ8 g gl)) (hm:m<=80) (hd0:0<=deep) (hd1:deep<=21)
 (c1:m+1<=80) (c2:deep<=20):
 Calls Tryz.prog 150 #[.agg #[.int .i64 k,.int .u64 (s.a:Int),.int .u64 (s.b:Int),.int .u64 (s.c:Int),.int .u64 (s.d:Int),.slice A ks.length cap],.int .i64 deep,.pointer (some ⟨g,0,none⟩),.pointer (some ⟨gl,0,none⟩)] w (Yk8 (chk (n+1) (.mk k s ks) deep m) g w):=by
 have HB:=qh hB;have k0:=Blk.e0 hB;have f0:=Blk.frozen hB 0;have HL:=qh hL;have hg:=hB.lt;have hng:¬g=w.heap.size:=by omega
 have hw:Z72 k=2:=by subst h4;rfl
 have c1':¬80<m+1:=by omega
 have c2':¬20<deep:=by omega
 have t4:=J66 h4;have t1:decide (k<1)=false:=decide_eq_false (by omega);have t8:decide (8<k)=false:=decide_eq_false (by omega);clear h4;have e1:IntKind.i64.wrap ((m:Int)+1)=(m:Int)+1:=IntWalk.i64_in _ (by omega);clear hB hL;by_cases c3:(ks.length:Int)=2
 . have e3:=J66 c3;have e4:=Yr6 c3;by_cases c4:okR (.mk k s ks)=false
   . have e5:=X84 (hw.trans c3.symm) _ c4;have HE:Hid (chk (n+1) (.mk k s ks) deep m=(1,m+1)):=JT6 c1' c2' c4;rw [HE.out];clear c3 c4 hw HE;go_enter Tryz.func150,Tryz.ntmps150;go_wp2_with fail;go_ret;exact⟨rfl,(HB.out.set_ 0 _).alloc _,(KeptOff.refl.set_ 0 _).alloc _⟩
   . have c5:okR (.mk k s ks)=true:=(by simpa using c4);have e5:=X84 (hw.trans c3.symm) _ c5;obtain⟨R,hR⟩:∃ R,R=chk (n+1) (.mk k s ks) deep m:=⟨_,rfl⟩;rw [<-hR];have HE:Hid (R=xy6 (λ k m=>chk n k (deep+1) m) (ks.drop 0) (m+1)):=hR.trans (jo5 c1' c2' c5);have hl2:ks.length<=2:=(by omega);clear c3 c4 c5 hw hR;go_enter Tryz.func150,Tryz.ntmps150;go_wp2_with fail;go_loopw [9] (λ i wr=>∃ j m':Nat,i= .int .i64 (j:Int)/\j<=ks.length/\m'<=80/\Hid (R=xy6 (λ k m=>chk n k (deep+1) m) (ks.drop j) m')/\Blk wr g 3 #[.int .i64 (m':Int)]/\KeptOff w wr g/\Blk wr w.heap.size 125 #[.int .i64 k,.int .u64 (s.a:Int),.int .u64 (s.b:Int),.int .u64 (s.c:Int),.int .u64 (s.d:Int),.slice A ks.length cap]) (λ i _=>ks.length-(intOf i).toNat)
     case atStart=>exact⟨0,m+1,rfl,Nat.zero_le _,by omega,HE,(HB.out.set_ 0 _).alloc _,(KeptOff.refl.set_ 0 _).alloc _,by have:=Blk.new (w.setCell ⟨g,0,none⟩ (.int .i64 ((m:Int)+1))) 125 #[.int .i64 k,.int .u64 (s.a:Int),.int .u64 (s.b:Int),.int .u64 (s.c:Int),.int .u64 (s.d:Int),.slice A ks.length cap];simpa [World.setCell] using this⟩
     case round=>
      obtain⟨j,m',rfl,hj,hm',HC,hB',hK',hX⟩:=hrel;have HB':=qh hB';have HK':=qh hK';have HX':=qh hX;have hz':=hK'.size;have x0:=Blk.e5 hX;have HL':Hid (Blk wr gl 197 (zJ8 g gl)):=hK'.blk HL.out hne;have l0:=Blk.e0 HL'.out;clear hB' hK' hX;by_cases hlt:j<ks.length
      . obtain⟨ad,cs',rfl,hc,hr⟩:=hel j ks[j] (List.getElem?_eq_getElem hlt);obtain⟨_,e',hb⟩:=hblk (by omega);injection e' with e';subst e';have HR:=qh (hr.below (HK'.out.below (by omega) hBg));obtain⟨c0,c1,c2,c3,c4,A5,l5,cap5,rfl⟩:=hr.six;obtain⟨d0,d1,d2,d3,d4,d5⟩:=XW8 (w':=wr) hc hb (HK'.out.below (by omega) hBg);go_wp2_with fail;have IH:∀ wx:World,RxC wx B n ks[j] [.int .i64 c0,.int .u64 c1,.int .u64 c2,.int .u64 c3,.int .u64 c4,.slice A5 l5 cap5]->Blk wx g 3 #[.int .i64 (m':Int)]->Blk wx gl 197 (zJ8 g gl)->Calls Tryz.prog 150 #[.agg #[.int .i64 c0,.int .u64 c1,.int .u64 c2,.int .u64 c3,.int .u64 c4,.slice A5 l5 cap5],.int .i64 (deep+1),.pointer (some ⟨g,0,none⟩),.pointer (some ⟨gl,0,none⟩)] wx (Yk8 (chk n ks[j] (deep+1) m') g wx):=λ wx h1 h2 h3=>HI.out ks[j] [.int .i64 c0,.int .u64 c1,.int .u64 c2,.int .u64 c3,.int .u64 c4,.slice A5 l5 cap5] (deep+1) m' g gl B wx h1 hBg hne h2 h3 hm' (by omega) (by omega)
        have HIH:=qh IH;have hlo:=Qe1 n ks[j] (deep+1) m';obtain⟨p,hp⟩:∃ p,chk n ks[j] (deep+1) m'=p:=⟨_,rfl⟩;rw [hp] at hlo;have HP:=qh hp;obtain⟨E,M⟩:=p;obtain⟨hlo1,hlo2⟩:=hlo;have HX:Hid (ks[j]? =some ks[j]):=List.getElem?_eq_getElem hlt;have hM:E=0->M<=80:=λ h=>hlo2 h hm'
        have HM:=qh hM;clear hc hr hel IH hp hlo1 hlo2 hM;by_cases h0:E=0
        . subst h0;have hM80:=HM.out rfl;have HC2:Hid (R=xy6 (λ k m=>chk n k (deep+1) m) (ks.drop (j+1)) M):=by show _=_;rw [HC.out];exact kA7 HX.out HP.out
          go_still_tail 8,(by kernel_rfl)
          go_wp2_with fail;refine(HIH.out wr.drew HR.out.drew HB'.out.drew HL'.out.drew).mono ?_;rintro e w2 ⟨rfl,hb2,hk2⟩;rw [HP.out] at hb2⊢;have HB2:=qh hb2;have HK2:=qh (HK'.out.drew.tr hk2);have HX2:=qh (hk2.blk HX'.out.drew (by omega));clear hb2 hk2;go_wp2_with fail;go_roundw
          case rel=>exact⟨j+1,M,by go_num,by omega,hM80,HC2,HB2.out,HK2.out,HX2.out⟩
          case measure=>simp [intOf];omega
        . have HC2:Hid (R=(E,M)):=(by show _=_;rw [HC.out];exact z44 HX.out HP.out h0);have i0:(E==0)=false:=zR6 h0;have i1:(E !=0)=true:=(by rw [bne,i0];rfl);clear h0
          go_still_tail 8,(by kernel_rfl)
          go_wp2_with fail;refine(HIH.out wr.drew HR.out.drew HB'.out.drew HL'.out.drew).mono ?_;rintro e w2 ⟨rfl,hb2,hk2⟩;rw [HP.out] at hb2⊢;have HB2:=qh hb2;have HK2:=qh (HK'.out.drew.tr hk2);clear hb2 hk2;go_wp2_with fail;go_ret;exact⟨by rw [HC2.out];rfl,by rw [HC2.out];exact HB2.out,HK2.out⟩
      . have HE2:Hid (R=(0,m')):=(by show _=_;rw [HC.out];exact XP9 (by omega));go_wp2_with fail;go_ret;exact⟨by rw [HE2.out];rfl,by rw [HE2.out];exact HB'.out,HK'.out⟩
 . have e3:=zR6 c3;have e4:=KP6 c3;have HE:Hid (chk (n+1) (.mk k s ks) deep m=(1,m+1)):=JT6 c1' c2' (kf0 (by rw [hw];omega));rw [HE.out];clear c3 hw HE;go_enter Tryz.func150,Tryz.ntmps150;go_wp2_with fail;go_ret;exact⟨rfl,(HB.out.set_ 0 _).alloc _,(KeptOff.refl.set_ 0 _).alloc _⟩
end
section
variable (n:Nat) (k:Int) (s:Q4) (ks:List Rx) (deep:Int) (m g gl B cap:Nat) (A:Option Addr) (w:World)
set_option maxRecDepth 100000 in
set_option maxHeartbeats 1000000 in
theorem Qk9 (HI:Hid (kX2 n)) (h4:k=5)
 (hs:s.ok) (hk: -9223372036854775808<=k/\k<=9223372036854775807) (hlc:ks.length<=cap) (hcap:cap<=9223372036854775807) (hblk:0<ks.length->∃ ad,A=some ad/\ad.block<B)
 (hel:∀ i x,ks[i]? =some x->∃ ad cs',A=some ad/\(∀ j u,cs'[j]? =some u->w.cell? (ad.add (i*6+j))=some u)/\RxC w B n x cs')
 (hBg:B<=g) (hne:gl≠g) (hB:Blk w g 3 #[.int .i64 (m:Int)]) (hL:Blk w gl 197 (zJ8 g gl)) (hm:m<=80) (hd0:0<=deep) (hd1:deep<=21)
 (c1:m+1<=80) (c2:deep<=20):
 Calls Tryz.prog 150 #[.agg #[.int .i64 k,.int .u64 (s.a:Int),.int .u64 (s.b:Int),.int .u64 (s.c:Int),.int .u64 (s.d:Int),.slice A ks.length cap],.int .i64 deep,.pointer (some ⟨g,0,none⟩),.pointer (some ⟨gl,0,none⟩)] w (Yk8 (chk (n+1) (.mk k s ks) deep m) g w):=by
 have HB:=qh hB;have k0:=Blk.e0 hB;have f0:=Blk.frozen hB 0;have HL:=qh hL;have hg:=hB.lt;have hng:¬g=w.heap.size:=by omega
 have hw:Z72 k=2:=by subst h4;rfl
 have c1':¬80<m+1:=by omega
 have c2':¬20<deep:=by omega
 have t5:=J66 h4;have t4:(k==4)=false:=zR6 (by omega);have t1:decide (k<1)=false:=decide_eq_false (by omega);have t8:decide (8<k)=false:=decide_eq_false (by omega);clear h4;have e1:IntKind.i64.wrap ((m:Int)+1)=(m:Int)+1:=IntWalk.i64_in _ (by omega);clear hB hL;by_cases c3:(ks.length:Int)=2
 . have e3:=J66 c3;have e4:=Yr6 c3;by_cases c4:okR (.mk k s ks)=false
   . have e5:=X84 (hw.trans c3.symm) _ c4;have HE:Hid (chk (n+1) (.mk k s ks) deep m=(1,m+1)):=JT6 c1' c2' c4;rw [HE.out];clear c3 c4 hw HE;go_enter Tryz.func150,Tryz.ntmps150;go_wp2_with fail;go_ret;exact⟨rfl,(HB.out.set_ 0 _).alloc _,(KeptOff.refl.set_ 0 _).alloc _⟩
   . have c5:okR (.mk k s ks)=true:=(by simpa using c4);have e5:=X84 (hw.trans c3.symm) _ c5;obtain⟨R,hR⟩:∃ R,R=chk (n+1) (.mk k s ks) deep m:=⟨_,rfl⟩;rw [<-hR];have HE:Hid (R=xy6 (λ k m=>chk n k (deep+1) m) (ks.drop 0) (m+1)):=hR.trans (jo5 c1' c2' c5);have hl2:ks.length<=2:=(by omega);clear c3 c4 c5 hw hR;go_enter Tryz.func150,Tryz.ntmps150;go_wp2_with fail;go_loopw [9] (λ i wr=>∃ j m':Nat,i= .int .i64 (j:Int)/\j<=ks.length/\m'<=80/\Hid (R=xy6 (λ k m=>chk n k (deep+1) m) (ks.drop j) m')/\Blk wr g 3 #[.int .i64 (m':Int)]/\KeptOff w wr g/\Blk wr w.heap.size 125 #[.int .i64 k,.int .u64 (s.a:Int),.int .u64 (s.b:Int),.int .u64 (s.c:Int),.int .u64 (s.d:Int),.slice A ks.length cap]) (λ i _=>ks.length-(intOf i).toNat)
     case atStart=>exact⟨0,m+1,rfl,Nat.zero_le _,by omega,HE,(HB.out.set_ 0 _).alloc _,(KeptOff.refl.set_ 0 _).alloc _,by have:=Blk.new (w.setCell ⟨g,0,none⟩ (.int .i64 ((m:Int)+1))) 125 #[.int .i64 k,.int .u64 (s.a:Int),.int .u64 (s.b:Int),.int .u64 (s.c:Int),.int .u64 (s.d:Int),.slice A ks.length cap];simpa [World.setCell] using this⟩
     case round=>
      obtain⟨j,m',rfl,hj,hm',HC,hB',hK',hX⟩:=hrel;have HB':=qh hB';have HK':=qh hK';have HX':=qh hX;have hz':=hK'.size;have x0:=Blk.e5 hX;have HL':Hid (Blk wr gl 197 (zJ8 g gl)):=hK'.blk HL.out hne;have l0:=Blk.e0 HL'.out;clear hB' hK' hX;by_cases hlt:j<ks.length
      . obtain⟨ad,cs',rfl,hc,hr⟩:=hel j ks[j] (List.getElem?_eq_getElem hlt);obtain⟨_,e',hb⟩:=hblk (by omega);injection e' with e';subst e';have HR:=qh (hr.below (HK'.out.below (by omega) hBg));obtain⟨c0,c1,c2,c3,c4,A5,l5,cap5,rfl⟩:=hr.six;obtain⟨d0,d1,d2,d3,d4,d5⟩:=XW8 (w':=wr) hc hb (HK'.out.below (by omega) hBg);go_wp2_with fail;have IH:∀ wx:World,RxC wx B n ks[j] [.int .i64 c0,.int .u64 c1,.int .u64 c2,.int .u64 c3,.int .u64 c4,.slice A5 l5 cap5]->Blk wx g 3 #[.int .i64 (m':Int)]->Blk wx gl 197 (zJ8 g gl)->Calls Tryz.prog 150 #[.agg #[.int .i64 c0,.int .u64 c1,.int .u64 c2,.int .u64 c3,.int .u64 c4,.slice A5 l5 cap5],.int .i64 (deep+1),.pointer (some ⟨g,0,none⟩),.pointer (some ⟨gl,0,none⟩)] wx (Yk8 (chk n ks[j] (deep+1) m') g wx):=λ wx h1 h2 h3=>HI.out ks[j] [.int .i64 c0,.int .u64 c1,.int .u64 c2,.int .u64 c3,.int .u64 c4,.slice A5 l5 cap5] (deep+1) m' g gl B wx h1 hBg hne h2 h3 hm' (by omega) (by omega)
        have HIH:=qh IH;have hlo:=Qe1 n ks[j] (deep+1) m';obtain⟨p,hp⟩:∃ p,chk n ks[j] (deep+1) m'=p:=⟨_,rfl⟩;rw [hp] at hlo;have HP:=qh hp;obtain⟨E,M⟩:=p;obtain⟨hlo1,hlo2⟩:=hlo;have HX:Hid (ks[j]? =some ks[j]):=List.getElem?_eq_getElem hlt;have hM:E=0->M<=80:=λ h=>hlo2 h hm'
        have HM:=qh hM;clear hc hr hel IH hp hlo1 hlo2 hM;by_cases h0:E=0
        . subst h0;have hM80:=HM.out rfl;have HC2:Hid (R=xy6 (λ k m=>chk n k (deep+1) m) (ks.drop (j+1)) M):=by show _=_;rw [HC.out];exact kA7 HX.out HP.out
          go_still_tail 8,(by kernel_rfl)
          go_wp2_with fail;refine(HIH.out wr.drew HR.out.drew HB'.out.drew HL'.out.drew).mono ?_;rintro e w2 ⟨rfl,hb2,hk2⟩;rw [HP.out] at hb2⊢;have HB2:=qh hb2;have HK2:=qh (HK'.out.drew.tr hk2);have HX2:=qh (hk2.blk HX'.out.drew (by omega));clear hb2 hk2;go_wp2_with fail;go_roundw
          case rel=>exact⟨j+1,M,by go_num,by omega,hM80,HC2,HB2.out,HK2.out,HX2.out⟩
          case measure=>simp [intOf];omega
        . have HC2:Hid (R=(E,M)):=(by show _=_;rw [HC.out];exact z44 HX.out HP.out h0);have i0:(E==0)=false:=zR6 h0;have i1:(E !=0)=true:=(by rw [bne,i0];rfl);clear h0
          go_still_tail 8,(by kernel_rfl)
          go_wp2_with fail;refine(HIH.out wr.drew HR.out.drew HB'.out.drew HL'.out.drew).mono ?_;rintro e w2 ⟨rfl,hb2,hk2⟩;rw [HP.out] at hb2⊢;have HB2:=qh hb2;have HK2:=qh (HK'.out.drew.tr hk2);clear hb2 hk2;go_wp2_with fail;go_ret;exact⟨by rw [HC2.out];rfl,by rw [HC2.out];exact HB2.out,HK2.out⟩
      . have HE2:Hid (R=(0,m')):=(by show _=_;rw [HC.out];exact XP9 (by omega));go_wp2_with fail;go_ret;exact⟨by rw [HE2.out];rfl,by rw [HE2.out];exact HB'.out,HK'.out⟩
 . have e3:=zR6 c3;have e4:=KP6 c3;have HE:Hid (chk (n+1) (.mk k s ks) deep m=(1,m+1)):=JT6 c1' c2' (kf0 (by rw [hw];omega));rw [HE.out];clear c3 hw HE;go_enter Tryz.func150,Tryz.ntmps150;go_wp2_with fail;go_ret;exact⟨rfl,(HB.out.set_ 0 _).alloc _,(KeptOff.refl.set_ 0 _).alloc _⟩
end
section
variable (n:Nat) (k:Int) (s:Q4) (ks:List Rx) (deep:Int) (m g gl B cap:Nat) (A:Option Addr) (w:World)
set_option maxRecDepth 100000 in
set_option maxHeartbeats 1000000 in
theorem Y31 (HI:Hid (kX2 n)) (h4:k=6)
 (hs:s.ok) (hk: -9223372036854775808<=k/\k<=9223372036854775807) (hlc:ks.length<=cap) (hcap:cap<=9223372036854775807) (hblk:0<ks.length->∃ ad,A=some ad/\ad.block<B)
 (hel:∀ i x,ks[i]? =some x->∃ ad cs',A=some ad/\(∀ j u,cs'[j]? =some u->w.cell? (ad.add (i*6+j))=some u)/\RxC w B n x cs')
 (hBg:B<=g) (hne:gl≠g) (hB:Blk w g 3 #[.int .i64 (m:Int)]) (hL:Blk w gl 197 (zJ8 g gl)) (hm:m<=80) (hd0:0<=deep) (hd1:deep<=21)
 (c1:m+1<=80) (c2:deep<=20):
 Calls Tryz.prog 150 #[.agg #[.int .i64 k,.int .u64 (s.a:Int),.int .u64 (s.b:Int),.int .u64 (s.c:Int),.int .u64 (s.d:Int),.slice A ks.length cap],.int .i64 deep,.pointer (some ⟨g,0,none⟩),.pointer (some ⟨gl,0,none⟩)] w (Yk8 (chk (n+1) (.mk k s ks) deep m) g w):=by
 have HB:=qh hB;have k0:=Blk.e0 hB;have f0:=Blk.frozen hB 0;have HL:=qh hL;have hg:=hB.lt;have hng:¬g=w.heap.size:=by omega
 have hw:Z72 k=1:=by subst h4;rfl
 have c1':¬80<m+1:=by omega
 have c2':¬20<deep:=by omega
 have t6:=J66 h4;have t4:(k==4)=false:=zR6 (by omega);have t5:(k==5)=false:=zR6 (by omega);have t1:decide (k<1)=false:=decide_eq_false (by omega);have t8:decide (8<k)=false:=decide_eq_false (by omega);clear h4;have e1:IntKind.i64.wrap ((m:Int)+1)=(m:Int)+1:=IntWalk.i64_in _ (by omega);clear hB hL;by_cases c3:(ks.length:Int)=1
 . have e3:=J66 c3;have e4:=Yr6 c3;by_cases c4:okR (.mk k s ks)=false
   . have e5:=X84 (hw.trans c3.symm) _ c4;have HE:Hid (chk (n+1) (.mk k s ks) deep m=(1,m+1)):=JT6 c1' c2' c4;rw [HE.out];clear c3 c4 hw HE;go_enter Tryz.func150,Tryz.ntmps150;go_wp2_with fail;go_ret;exact⟨rfl,(HB.out.set_ 0 _).alloc _,(KeptOff.refl.set_ 0 _).alloc _⟩
   . have c5:okR (.mk k s ks)=true:=(by simpa using c4);have e5:=X84 (hw.trans c3.symm) _ c5;obtain⟨R,hR⟩:∃ R,R=chk (n+1) (.mk k s ks) deep m:=⟨_,rfl⟩;rw [<-hR];have HE:Hid (R=xy6 (λ k m=>chk n k (deep+1) m) (ks.drop 0) (m+1)):=hR.trans (jo5 c1' c2' c5);have hl2:ks.length<=2:=(by omega);clear c3 c4 c5 hw hR;go_enter Tryz.func150,Tryz.ntmps150;go_wp2_with fail;go_loopw [9] (λ i wr=>∃ j m':Nat,i= .int .i64 (j:Int)/\j<=ks.length/\m'<=80/\Hid (R=xy6 (λ k m=>chk n k (deep+1) m) (ks.drop j) m')/\Blk wr g 3 #[.int .i64 (m':Int)]/\KeptOff w wr g/\Blk wr w.heap.size 125 #[.int .i64 k,.int .u64 (s.a:Int),.int .u64 (s.b:Int),.int .u64 (s.c:Int),.int .u64 (s.d:Int),.slice A ks.length cap]) (λ i _=>ks.length-(intOf i).toNat)
     case atStart=>exact⟨0,m+1,rfl,Nat.zero_le _,by omega,HE,(HB.out.set_ 0 _).alloc _,(KeptOff.refl.set_ 0 _).alloc _,by have:=Blk.new (w.setCell ⟨g,0,none⟩ (.int .i64 ((m:Int)+1))) 125 #[.int .i64 k,.int .u64 (s.a:Int),.int .u64 (s.b:Int),.int .u64 (s.c:Int),.int .u64 (s.d:Int),.slice A ks.length cap];simpa [World.setCell] using this⟩
     case round=>
      obtain⟨j,m',rfl,hj,hm',HC,hB',hK',hX⟩:=hrel;have HB':=qh hB';have HK':=qh hK';have HX':=qh hX;have hz':=hK'.size;have x0:=Blk.e5 hX;have HL':Hid (Blk wr gl 197 (zJ8 g gl)):=hK'.blk HL.out hne;have l0:=Blk.e0 HL'.out;clear hB' hK' hX;by_cases hlt:j<ks.length
      . obtain⟨ad,cs',rfl,hc,hr⟩:=hel j ks[j] (List.getElem?_eq_getElem hlt);obtain⟨_,e',hb⟩:=hblk (by omega);injection e' with e';subst e';have HR:=qh (hr.below (HK'.out.below (by omega) hBg));obtain⟨c0,c1,c2,c3,c4,A5,l5,cap5,rfl⟩:=hr.six;obtain⟨d0,d1,d2,d3,d4,d5⟩:=XW8 (w':=wr) hc hb (HK'.out.below (by omega) hBg);go_wp2_with fail;have IH:∀ wx:World,RxC wx B n ks[j] [.int .i64 c0,.int .u64 c1,.int .u64 c2,.int .u64 c3,.int .u64 c4,.slice A5 l5 cap5]->Blk wx g 3 #[.int .i64 (m':Int)]->Blk wx gl 197 (zJ8 g gl)->Calls Tryz.prog 150 #[.agg #[.int .i64 c0,.int .u64 c1,.int .u64 c2,.int .u64 c3,.int .u64 c4,.slice A5 l5 cap5],.int .i64 (deep+1),.pointer (some ⟨g,0,none⟩),.pointer (some ⟨gl,0,none⟩)] wx (Yk8 (chk n ks[j] (deep+1) m') g wx):=λ wx h1 h2 h3=>HI.out ks[j] [.int .i64 c0,.int .u64 c1,.int .u64 c2,.int .u64 c3,.int .u64 c4,.slice A5 l5 cap5] (deep+1) m' g gl B wx h1 hBg hne h2 h3 hm' (by omega) (by omega)
        have HIH:=qh IH;have hlo:=Qe1 n ks[j] (deep+1) m';obtain⟨p,hp⟩:∃ p,chk n ks[j] (deep+1) m'=p:=⟨_,rfl⟩;rw [hp] at hlo;have HP:=qh hp;obtain⟨E,M⟩:=p;obtain⟨hlo1,hlo2⟩:=hlo;have HX:Hid (ks[j]? =some ks[j]):=List.getElem?_eq_getElem hlt;have hM:E=0->M<=80:=λ h=>hlo2 h hm'
        have HM:=qh hM;clear hc hr hel IH hp hlo1 hlo2 hM;by_cases h0:E=0
        . subst h0;have hM80:=HM.out rfl;have HC2:Hid (R=xy6 (λ k m=>chk n k (deep+1) m) (ks.drop (j+1)) M):=by show _=_;rw [HC.out];exact kA7 HX.out HP.out
          go_still_tail 8,(by kernel_rfl)
          go_wp2_with fail;refine(HIH.out wr.drew HR.out.drew HB'.out.drew HL'.out.drew).mono ?_;rintro e w2 ⟨rfl,hb2,hk2⟩;rw [HP.out] at hb2⊢;have HB2:=qh hb2;have HK2:=qh (HK'.out.drew.tr hk2);have HX2:=qh (hk2.blk HX'.out.drew (by omega));clear hb2 hk2;go_wp2_with fail;go_roundw
          case rel=>exact⟨j+1,M,by go_num,by omega,hM80,HC2,HB2.out,HK2.out,HX2.out⟩
          case measure=>simp [intOf];omega
        . have HC2:Hid (R=(E,M)):=(by show _=_;rw [HC.out];exact z44 HX.out HP.out h0);have i0:(E==0)=false:=zR6 h0;have i1:(E !=0)=true:=(by rw [bne,i0];rfl);clear h0
          go_still_tail 8,(by kernel_rfl)
          go_wp2_with fail;refine(HIH.out wr.drew HR.out.drew HB'.out.drew HL'.out.drew).mono ?_;rintro e w2 ⟨rfl,hb2,hk2⟩;rw [HP.out] at hb2⊢;have HB2:=qh hb2;have HK2:=qh (HK'.out.drew.tr hk2);clear hb2 hk2;go_wp2_with fail;go_ret;exact⟨by rw [HC2.out];rfl,by rw [HC2.out];exact HB2.out,HK2.out⟩
      . have HE2:Hid (R=(0,m')):=(by show _=_;rw [HC.out];exact XP9 (by omega));go_wp2_with fail;go_ret;exact⟨by rw [HE2.out];rfl,by rw [HE2.out];exact HB'.out,HK'.out⟩
 . have e3:=zR6 c3;have e4:=KP6 c3;have HE:Hid (chk (n+1) (.mk k s ks) deep m=(1,m+1)):=JT6 c1' c2' (kf0 (by rw [hw];omega));rw [HE.out];clear c3 hw HE;go_enter Tryz.func150,Tryz.ntmps150;go_wp2_with fail;go_ret;exact⟨rfl,(HB.out.set_ 0 _).alloc _,(KeptOff.refl.set_ 0 _).alloc _⟩
end
section
variable (n:Nat) (k:Int) (s:Q4) (ks:List Rx) (deep:Int) (m g gl B cap:Nat) (A:Option Addr) (w:World)
set_option maxRecDepth 100000 in
set_option maxHeartbeats 1000000 in
theorem kp7 (HI:Hid (kX2 n)) (h4:k=1\/k=2\/k=3\/k=7\/k=8)
 (hs:s.ok) (hk: -9223372036854775808<=k/\k<=9223372036854775807) (hlc:ks.length<=cap) (hcap:cap<=9223372036854775807) (hblk:0<ks.length->∃ ad,A=some ad/\ad.block<B)
 (hel:∀ i x,ks[i]? =some x->∃ ad cs',A=some ad/\(∀ j u,cs'[j]? =some u->w.cell? (ad.add (i*6+j))=some u)/\RxC w B n x cs')
 (hBg:B<=g) (hne:gl≠g) (hB:Blk w g 3 #[.int .i64 (m:Int)]) (hL:Blk w gl 197 (zJ8 g gl)) (hm:m<=80) (hd0:0<=deep) (hd1:deep<=21)
 (c1:m+1<=80) (c2:deep<=20):
 Calls Tryz.prog 150 #[.agg #[.int .i64 k,.int .u64 (s.a:Int),.int .u64 (s.b:Int),.int .u64 (s.c:Int),.int .u64 (s.d:Int),.slice A ks.length cap],.int .i64 deep,.pointer (some ⟨g,0,none⟩),.pointer (some ⟨gl,0,none⟩)] w (Yk8 (chk (n+1) (.mk k s ks) deep m) g w):=by
 have HB:=qh hB;have k0:=Blk.e0 hB;have f0:=Blk.frozen hB 0;have HL:=qh hL;have hg:=hB.lt;have hng:¬g=w.heap.size:=by omega
 obtain⟨hw,q1,q8,q4,q5,q6⟩:=XZ2 h4;have c1':¬80<m+1:=by omega
 have c2':¬20<deep:=by omega
 have t6:(k==6)=false:=zR6 q6;have t4:(k==4)=false:=zR6 q4;have t5:(k==5)=false:=zR6 q5;have t1:decide (k<1)=false:=decide_eq_false q1;have t8:decide (8<k)=false:=decide_eq_false q8;clear h4 q1 q8 q4 q5 q6;have e1:IntKind.i64.wrap ((m:Int)+1)=(m:Int)+1:=IntWalk.i64_in _ (by omega);clear hB hL;by_cases c3:(ks.length:Int)=0
 . have e3:=J66 c3;have e4:=Yr6 c3;by_cases c4:okR (.mk k s ks)=false
   . have e5:=X84 (hw.trans c3.symm) _ c4;have HE:Hid (chk (n+1) (.mk k s ks) deep m=(1,m+1)):=JT6 c1' c2' c4;rw [HE.out];clear c3 c4 hw HE;go_enter Tryz.func150,Tryz.ntmps150;go_wp2_with fail;go_ret;exact⟨rfl,(HB.out.set_ 0 _).alloc _,(KeptOff.refl.set_ 0 _).alloc _⟩
   . have c5:okR (.mk k s ks)=true:=(by simpa using c4);have e5:=X84 (hw.trans c3.symm) _ c5;obtain⟨R,hR⟩:∃ R,R=chk (n+1) (.mk k s ks) deep m:=⟨_,rfl⟩;rw [<-hR];have HE:Hid (R=xy6 (λ k m=>chk n k (deep+1) m) (ks.drop 0) (m+1)):=hR.trans (jo5 c1' c2' c5);have hl2:ks.length<=2:=(by omega);clear c3 c4 c5 hw hR;go_enter Tryz.func150,Tryz.ntmps150;go_wp2_with fail;go_loopw [9] (λ i wr=>∃ j m':Nat,i= .int .i64 (j:Int)/\j<=ks.length/\m'<=80/\Hid (R=xy6 (λ k m=>chk n k (deep+1) m) (ks.drop j) m')/\Blk wr g 3 #[.int .i64 (m':Int)]/\KeptOff w wr g/\Blk wr w.heap.size 125 #[.int .i64 k,.int .u64 (s.a:Int),.int .u64 (s.b:Int),.int .u64 (s.c:Int),.int .u64 (s.d:Int),.slice A ks.length cap]) (λ i _=>ks.length-(intOf i).toNat)
     case atStart=>exact⟨0,m+1,rfl,Nat.zero_le _,by omega,HE,(HB.out.set_ 0 _).alloc _,(KeptOff.refl.set_ 0 _).alloc _,by have:=Blk.new (w.setCell ⟨g,0,none⟩ (.int .i64 ((m:Int)+1))) 125 #[.int .i64 k,.int .u64 (s.a:Int),.int .u64 (s.b:Int),.int .u64 (s.c:Int),.int .u64 (s.d:Int),.slice A ks.length cap];simpa [World.setCell] using this⟩
     case round=>
      obtain⟨j,m',rfl,hj,hm',HC,hB',hK',hX⟩:=hrel;have HB':=qh hB';have HK':=qh hK';have HX':=qh hX;have hz':=hK'.size;have x0:=Blk.e5 hX;have HL':Hid (Blk wr gl 197 (zJ8 g gl)):=hK'.blk HL.out hne;have l0:=Blk.e0 HL'.out;clear hB' hK' hX;by_cases hlt:j<ks.length
      . obtain⟨ad,cs',rfl,hc,hr⟩:=hel j ks[j] (List.getElem?_eq_getElem hlt);obtain⟨_,e',hb⟩:=hblk (by omega);injection e' with e';subst e';have HR:=qh (hr.below (HK'.out.below (by omega) hBg));obtain⟨c0,c1,c2,c3,c4,A5,l5,cap5,rfl⟩:=hr.six;obtain⟨d0,d1,d2,d3,d4,d5⟩:=XW8 (w':=wr) hc hb (HK'.out.below (by omega) hBg);go_wp2_with fail;have IH:∀ wx:World,RxC wx B n ks[j] [.int .i64 c0,.int .u64 c1,.int .u64 c2,.int .u64 c3,.int .u64 c4,.slice A5 l5 cap5]->Blk wx g 3 #[.int .i64 (m':Int)]->Blk wx gl 197 (zJ8 g gl)->Calls Tryz.prog 150 #[.agg #[.int .i64 c0,.int .u64 c1,.int .u64 c2,.int .u64 c3,.int .u64 c4,.slice A5 l5 cap5],.int .i64 (deep+1),.pointer (some ⟨g,0,none⟩),.pointer (some ⟨gl,0,none⟩)] wx (Yk8 (chk n ks[j] (deep+1) m') g wx):=λ wx h1 h2 h3=>HI.out ks[j] [.int .i64 c0,.int .u64 c1,.int .u64 c2,.int .u64 c3,.int .u64 c4,.slice A5 l5 cap5] (deep+1) m' g gl B wx h1 hBg hne h2 h3 hm' (by omega) (by omega)
        have HIH:=qh IH;have hlo:=Qe1 n ks[j] (deep+1) m';obtain⟨p,hp⟩:∃ p,chk n ks[j] (deep+1) m'=p:=⟨_,rfl⟩;rw [hp] at hlo;have HP:=qh hp;obtain⟨E,M⟩:=p;obtain⟨hlo1,hlo2⟩:=hlo;have HX:Hid (ks[j]? =some ks[j]):=List.getElem?_eq_getElem hlt;have hM:E=0->M<=80:=λ h=>hlo2 h hm'
        have HM:=qh hM;clear hc hr hel IH hp hlo1 hlo2 hM;by_cases h0:E=0
        . subst h0;have hM80:=HM.out rfl;have HC2:Hid (R=xy6 (λ k m=>chk n k (deep+1) m) (ks.drop (j+1)) M):=by show _=_;rw [HC.out];exact kA7 HX.out HP.out
          go_still_tail 8,(by kernel_rfl)
          go_wp2_with fail;refine(HIH.out wr.drew HR.out.drew HB'.out.drew HL'.out.drew).mono ?_;rintro e w2 ⟨rfl,hb2,hk2⟩;rw [HP.out] at hb2⊢;have HB2:=qh hb2;have HK2:=qh (HK'.out.drew.tr hk2);have HX2:=qh (hk2.blk HX'.out.drew (by omega));clear hb2 hk2;go_wp2_with fail;go_roundw
          case rel=>exact⟨j+1,M,by go_num,by omega,hM80,HC2,HB2.out,HK2.out,HX2.out⟩
          case measure=>simp [intOf];omega
        . have HC2:Hid (R=(E,M)):=(by show _=_;rw [HC.out];exact z44 HX.out HP.out h0);have i0:(E==0)=false:=zR6 h0;have i1:(E !=0)=true:=(by rw [bne,i0];rfl);clear h0
          go_still_tail 8,(by kernel_rfl)
          go_wp2_with fail;refine(HIH.out wr.drew HR.out.drew HB'.out.drew HL'.out.drew).mono ?_;rintro e w2 ⟨rfl,hb2,hk2⟩;rw [HP.out] at hb2⊢;have HB2:=qh hb2;have HK2:=qh (HK'.out.drew.tr hk2);clear hb2 hk2;go_wp2_with fail;go_ret;exact⟨by rw [HC2.out];rfl,by rw [HC2.out];exact HB2.out,HK2.out⟩
      . have HE2:Hid (R=(0,m')):=(by show _=_;rw [HC.out];exact XP9 (by omega));go_wp2_with fail;go_ret;exact⟨by rw [HE2.out];rfl,by rw [HE2.out];exact HB'.out,HK'.out⟩
 . have e3:=zR6 c3;have e4:=KP6 c3;have HE:Hid (chk (n+1) (.mk k s ks) deep m=(1,m+1)):=JT6 c1' c2' (kf0 (by rw [hw];omega));rw [HE.out];clear c3 hw HE;go_enter Tryz.func150,Tryz.ntmps150;go_wp2_with fail;go_ret;exact⟨rfl,(HB.out.set_ 0 _).alloc _,(KeptOff.refl.set_ 0 _).alloc _⟩
end
theorem QS4 (n:Nat) (k:Int) (s:Q4) (ks:List Rx) (deep:Int) (m g gl B cap:Nat) (A:Option Addr) (w:World) (h4:k<1)
 (hBg:B<=g) (hB:Blk w g 3 #[.int .i64 (m:Int)]) (c1:m+1<=80) (c2:deep<=20):
 Calls Tryz.prog 150 #[.agg #[.int .i64 k,.int .u64 (s.a:Int),.int .u64 (s.b:Int),.int .u64 (s.c:Int),.int .u64 (s.d:Int),.slice A ks.length cap],.int .i64 deep,.pointer (some ⟨g,0,none⟩),.pointer (some ⟨gl,0,none⟩)] w (Yk8 (chk (n+1) (.mk k s ks) deep m) g w):=by
 have HB:=qh hB;have k0:=Blk.e0 hB;have f0:=Blk.frozen hB 0;have hg:=hB.lt;have hng:¬g=w.heap.size:=by omega
 have hw:Z72 k= -1:=by unfold Z72;rw [if_neg (by omega),if_neg (by omega),if_neg (by omega)]
 have HE:Hid (chk (n+1) (.mk k s ks) deep m=(1,m+1)):=JT6 (by omega) (by omega) (kf0 (by rw [hw];omega));rw [HE.out];have t6:(k==6)=false:=zR6 (by omega);have t4:(k==4)=false:=zR6 (by omega);have t5:(k==5)=false:=zR6 (by omega);have t1:decide (k<1)=true:=decide_eq_true (by omega);clear h4;have e1:IntKind.i64.wrap ((m:Int)+1)=(m:Int)+1:=IntWalk.i64_in _ (by omega);clear hB hw HE;go_enter Tryz.func150,Tryz.ntmps150;go_wp2_with fail;go_ret;exact⟨rfl,(HB.out.set_ 0 _).alloc _,(KeptOff.refl.set_ 0 _).alloc _⟩
theorem qY7 (n:Nat) (k:Int) (s:Q4) (ks:List Rx) (deep:Int) (m g gl B cap:Nat) (A:Option Addr) (w:World) (h4:8<k)
 (hBg:B<=g) (hB:Blk w g 3 #[.int .i64 (m:Int)]) (c1:m+1<=80) (c2:deep<=20):
 Calls Tryz.prog 150 #[.agg #[.int .i64 k,.int .u64 (s.a:Int),.int .u64 (s.b:Int),.int .u64 (s.c:Int),.int .u64 (s.d:Int),.slice A ks.length cap],.int .i64 deep,.pointer (some ⟨g,0,none⟩),.pointer (some ⟨gl,0,none⟩)] w (Yk8 (chk (n+1) (.mk k s ks) deep m) g w):=by
 have HB:=qh hB;have k0:=Blk.e0 hB;have f0:=Blk.frozen hB 0;have hg:=hB.lt;have hng:¬g=w.heap.size:=by omega
 have hw:Z72 k= -1:=by unfold Z72;rw [if_neg (by omega),if_neg (by omega),if_neg (by omega)]
 have HE:Hid (chk (n+1) (.mk k s ks) deep m=(1,m+1)):=JT6 (by omega) (by omega) (kf0 (by rw [hw];omega));rw [HE.out];have t6:(k==6)=false:=zR6 (by omega);have t4:(k==4)=false:=zR6 (by omega);have t5:(k==5)=false:=zR6 (by omega);have t1:decide (k<1)=false:=decide_eq_false (by omega);have t8:decide (8<k)=true:=decide_eq_true (by omega);clear h4;have e1:IntKind.i64.wrap ((m:Int)+1)=(m:Int)+1:=IntWalk.i64_in _ (by omega);clear hB hw HE;go_enter Tryz.func150,Tryz.ntmps150;go_wp2_with fail;go_ret;exact⟨rfl,(HB.out.set_ 0 _).alloc _,(KeptOff.refl.set_ 0 _).alloc _⟩
theorem Qs4 (n:Nat) (ih:kX2 n):kX2 (n+1):=by
 rintro⟨k,s,ks⟩ cs deep m g gl B w ⟨hs,hk,A,cap,e,hlc,hcap,hblk,hel⟩ hBg hne hB hL hm hd0 hd1;subst e;simp only [Rx.k,Rx.s,Rx.ks] at hs hk hlc hcap hblk hel⊢;have ecs:(ZF1 k s A ks.length cap).toArray=#[.int .i64 k,.int .u64 (s.a:Int),.int .u64 (s.b:Int),.int .u64 (s.c:Int),.int .u64 (s.d:Int),.slice A ks.length cap]:=rfl;rw [ecs];clear ecs;by_cases c1:80<m+1
 . rw [QD2 c1];obtain rfl:m=80:=(by omega);have HB:=qh hB;have k0:=Blk.e0 hB;have f0:=Blk.frozen hB 0;have hg:=hB.lt;have hng:¬g=w.heap.size:=(by omega);clear hB hL;go_enter Tryz.func150,Tryz.ntmps150;go_wp2_with fail;go_ret;exact⟨rfl,(HB.out.set_ 0 _).alloc _,(KeptOff.refl.set_ 0 _).alloc _⟩
 . by_cases c2:20<deep
   . rw [XU7 c1 c2];have HB:=qh hB;have k0:=Blk.e0 hB;have f0:=Blk.frozen hB 0;have hg:=hB.lt;have hng:¬g=w.heap.size:=(by omega);have e1:IntKind.i64.wrap ((m:Int)+1)=(m:Int)+1:=IntWalk.i64_in _ (by omega);clear hB hL;go_enter Tryz.func150,Tryz.ntmps150;go_wp2_with fail;go_ret;exact⟨rfl,(HB.out.set_ 0 _).alloc _,(KeptOff.refl.set_ 0 _).alloc _⟩
   . have hc:k<1\/8<k\/k=4\/k=5\/k=6\/(k=1\/k=2\/k=3\/k=7\/k=8):=(by omega);rcases hc with h|h|h|h|h|h
     . exact QS4 n k s ks deep m g gl B cap A w h hBg hB (by omega) (by omega)
     . exact qY7 n k s ks deep m g gl B cap A w h hBg hB (by omega) (by omega)
     . exact Kx5 n k s ks deep m g gl B cap A w (qh ih) h hs hk hlc hcap hblk hel hBg hne hB hL hm hd0 hd1 (by omega) (by omega)
     . exact Qk9 n k s ks deep m g gl B cap A w (qh ih) h hs hk hlc hcap hblk hel hBg hne hB hL hm hd0 hd1 (by omega) (by omega)
     . exact Y31 n k s ks deep m g gl B cap A w (qh ih) h hs hk hlc hcap hblk hel hBg hne hB hL hm hd0 hd1 (by omega) (by omega)
     . exact kp7 n k s ks deep m g gl B cap A w (qh ih) h hs hk hlc hcap hblk hel hBg hne hB hL hm hd0 hd1 (by omega) (by omega)
theorem KT6:∀ n,kX2 n
 |0=>λ _ _ _ _ _ _ _ _ h=>h.elim
 |n+1=>Qs4 n (KT6 n)
theorem ZE2 (n:Nat) (r:Rx) (cs:List Value) (B:Nat) (w:World) (h:RxC w B n r cs) (hB:B<=w.heap.size):
 Calls Tryz.prog 119 #[.agg cs.toArray] w λ e w'=>e= .returned (.int .i64 (Xm7 n r))/\Below w.heap.size w w':=by
 obtain⟨c0,c1,c2,c3,c4,A5,l5,cap5,rfl⟩:=h.six;obtain⟨W1,hW1⟩:∃ W1,W1=((w.alloc (.cells #[.int .i64 c0,.int .u64 c1,.int .u64 c2,.int .u64 c3,.int .u64 c4,.slice A5 l5 cap5] 125)).alloc (.cells #[.int .i64 0] 3)).alloc (.cells (zJ8 (w.heap.size+1) (w.heap.size+1+1)) 197):=⟨_,rfl⟩;have HW1:=qh hW1
 have HC:Hid (Calls Tryz.prog 150 #[.agg #[.int .i64 c0,.int .u64 c1,.int .u64 c2,.int .u64 c3,.int .u64 c4,.slice A5 l5 cap5],.int .i64 1,.pointer (some ⟨w.heap.size+1,0,none⟩),.pointer (some ⟨w.heap.size+1+1,0,none⟩)] W1 (Yk8 (chk n r 1 0) (w.heap.size+1) W1)):=by
  have hb:Blk W1 (w.heap.size+1) 3 #[.int .i64 ((0:Nat):Int)]:=by rw [hW1];have:=Blk.new (w.alloc (.cells #[.int .i64 c0,.int .u64 c1,.int .u64 c2,.int .u64 c3,.int .u64 c4,.slice A5 l5 cap5] 125)) 3 #[.int .i64 0];refine Blk.alloc ?_ _;simpa using this
  have hl:Blk W1 (w.heap.size+1+1) 197 (zJ8 (w.heap.size+1) (w.heap.size+1+1)):=by rw [hW1];have:=Blk.new ((w.alloc (.cells #[.int .i64 c0,.int .u64 c1,.int .u64 c2,.int .u64 c3,.int .u64 c4,.slice A5 l5 cap5] 125)).alloc (.cells #[.int .i64 0] 3)) 197 (zJ8 (w.heap.size+1) (w.heap.size+1+1));simpa using this
  exact KT6 n r _ 1 0 (w.heap.size+1) (w.heap.size+1+1) B W1 (by rw [hW1];exact((h.alloc hB _).alloc (by simp;omega) _).alloc (by simp;omega) _) (by omega) (by omega) hb hl (by omega) (by omega) (by omega)
 clear h hW1;go_enter Tryz.func119,Tryz.ntmps119;go_wp2_with fail;rw [<-HW1.out];refine HC.out.mono ?_;rintro e w2 ⟨rfl,hb2,hk2⟩
 have HB2:Hid (Below w.heap.size w w2):=by
  have h1:Below w.heap.size w W1:=by rw [HW1.out];exact(((Below.refl _ _).alloc (Nat.le_refl _) _).alloc (by simp) _).alloc (by simp;omega) _
  exact h1.trans (hk2.below h1.size (by omega))
 clear hb2 hk2;go_wp2_with fail;go_ret;exact⟨rfl,HB2.out⟩
end Go.Proofs.YtngepacmgabmaaaGreatDoor
