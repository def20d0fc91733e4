/- Walks: rex.not, rex.bytes; the closure o; Walks: rex.union; rex.Range of any two b .. -/
import Derived.Test.YtngepacmgabmaaaGreatDoorGn
import Derived.Laws.BitsAllLaws
namespace Go.Proofs.YtngepacmgabmaaaGreatDoor
open Go.RowKit
set_option linter.unusedVariables false
set_option linter.unusedSimpArgs false
def y83 (x:Nat):Nat:=18446744073709551616-(x+1)
def Q4.not (q:Q4):Q4:=⟨y83 q.a,y83 q.b,y83 q.c,y83 q.d⟩
def JQ4 (q:Q4) (k:Nat):Q4:=⟨if 0<k then y83 q.a else q.a,if 1<k then y83 q.b else q.b,if 2<k then y83 q.c else q.c,if 3<k then y83 q.d else q.d⟩
theorem qp7 (q:Q4) {k:Nat} (hk:k<4):(JQ4 q k).word k=q.word k:=by
 obtain rfl|rfl|rfl|rfl:k=0\/k=1\/k=2\/k=3:=by omega
 all_goals rfl
theorem jk6 (q:Q4) {k:Nat} (hk:k<4):(JQ4 q k).setW k (y83 (q.word k))=JQ4 q (k+1):=by
 obtain rfl|rfl|rfl|rfl:k=0\/k=1\/k=2\/k=3:=by omega
 all_goals rfl
theorem YY8 (x:Nat):y83 x<18446744073709551616:=by unfold y83;omega
theorem xG6 {q:Q4} (h:q.ok) {b:Nat} (hb:b<256):k32 q.not b= !k32 q b:=by
 rw [QD6,QD6]
 have hw:q.not.word (b/64)=y83 (q.word (b/64)):=by
  obtain e|e|e|e:b/64=0\/b/64=1\/b/64=2\/b/64=3:=by omega
  all_goals rw [e];rfl
 rw [hw];unfold y83;have hx:=Q4.word_lt h (b/64);rw [show (18446744073709551616:Nat)=2^64 by decide,Nat.testBit_two_pow_sub_succ (by omega),decide_eq_true (by omega),Bool.true_and]
theorem Q4.not_ok (q:Q4):q.not.ok:=⟨YY8 _,YY8 _,YY8 _,YY8 _⟩
theorem x84 (x:Nat) (hx:x<18446744073709551616):bits .xor .u64 (if IntKind.u64.signed=true then-1 else IntKind.u64.max) (x:Int)=((y83 x:Nat):Int):=by
 have e:(if IntKind.u64.signed=true then (-1:Int) else IntKind.u64.max)=18446744073709551615:=by decide
 rw [e]
 have h2:(BitVec.ofInt 64 (x:Int)).toNat=x:=by
  rw [BitVec.ofInt_natCast,BitVec.toNat_ofNat];exact Nat.mod_eq_of_lt (by omega)
 have h1:BitVec.ofInt 64 18446744073709551615=BitVec.allOnes 64:=by decide
 show IntKind.u64.wrap ((BitVec.ofInt 64 18446744073709551615^^^BitVec.ofInt 64 (x:Int)).toNat:Int)=_;rw [h1,BitVec.allOnes_xor,BitVec.toNat_not,h2,IntKind.wrap_u64];unfold y83;omega
set_option maxRecDepth 100000 in
set_option maxHeartbeats 2000000 in
theorem xm4 (q:Q4) (hq:q.ok) (w:World):
 Calls Tryz.prog 214 #[Qj7 q] w λ e w'=>e= .returned (Qj7 q.not)/\Below w.heap.size w w':=by
 obtain⟨W,hW⟩:∃ W,(w.alloc (.cells #[.int .u64 (q.a:Int),.int .u64 (q.b:Int),.int .u64 (q.c:Int),.int .u64 (q.d:Int)] 122)).alloc (.cells #[.int .u64 0,.int .u64 0,.int .u64 0,.int .u64 0] 122)=W:=⟨_,rfl⟩;have hS0:SBlk W w.heap.size (JQ4 q 0):=by rw [<-hW];exact Blk.alloc (Blk.new w _ _) _
 have hR0:SBlk W (w.heap.size+1) ⟨0,0,0,0⟩:=by
  have:=SBlk.new (w.alloc (.cells #[.int .u64 (q.a:Int),.int .u64 (q.b:Int),.int .u64 (q.c:Int),.int .u64 (q.d:Int)] 122));rw [hW] at this;simpa using this
 have HB0:Hid (Below w.heap.size w W):=by show Below _ _ _;rw [<-hW];exact((Below.refl _ _).alloc (Nat.le_refl _) _).alloc (by simp) _
 have HS0:=qh hS0;have HR0:=qh hR0;clear hS0 hR0;unfold Qj7;go_enter Tryz.func214,Tryz.ntmps214;go_wp2_with fail;go_loopw [4] (λ u wr=>∃ k:Nat,u= .int .i64 (k:Int)/\k<=4/\SBlk wr w.heap.size (JQ4 q k)/\SBlk wr (w.heap.size+1) ⟨0,0,0,0⟩/\Below w.heap.size w wr) (λ u _=>4-(intOf u).toNat)
 case atStart=>exact⟨0,rfl,by omega,HS0.out,HR0.out,HB0.out⟩
 case round=>
  obtain⟨k,rfl,hk,hS,hR,hB⟩:=hrel;clear HS0 HR0 HB0 hW;by_cases hlt:k<4
  . have y0:=hS.cell hlt;rw [qp7 q hlt] at y0;have y1:wr.frozen? ⟨w.heap.size,k,none⟩=false:=Blk.frozen hS _;have hN:=hS.setW hlt (y83 (q.word k));rw [jk6 q hlt] at hN;have HN:=qh hN;have HR2:Hid (SBlk (wr.setCell ⟨w.heap.size,k,none⟩ (.int .u64 ((y83 (q.word k):Nat):Int))) (w.heap.size+1) ⟨0,0,0,0⟩):=Blk.far hR (by dsimp only;omega) _;have HB2:=qh (hB.setCell (p:=⟨w.heap.size,k,none⟩) (Nat.le_refl _) (.int .u64 ((y83 (q.word k):Nat):Int)));have HV:=qh (x84 (q.word k) (Q4.word_lt hq k));clear hS hR hB hN;obtain rfl|rfl|rfl|rfl:k=0\/k=1\/k=2\/k=3:=by omega
    . go_wp2_with fail;exact⟨⟨1,rfl,by omega,by rw [HV.out];exact HN.out,by rw [HV.out];exact HR2.out,by rw [HV.out];exact HB2.out⟩,by simp [intOf]⟩
    . go_wp2_with fail;exact⟨⟨2,rfl,by omega,by rw [HV.out];exact HN.out,by rw [HV.out];exact HR2.out,by rw [HV.out];exact HB2.out⟩,by simp [intOf]⟩
    . go_wp2_with fail;exact⟨⟨3,rfl,by omega,by rw [HV.out];exact HN.out,by rw [HV.out];exact HR2.out,by rw [HV.out];exact HB2.out⟩,by simp [intOf]⟩
    . go_wp2_with fail;exact⟨⟨4,rfl,by omega,by rw [HV.out];exact HN.out,by rw [HV.out];exact HR2.out,by rw [HV.out];exact HB2.out⟩,by simp [intOf]⟩
  . obtain rfl:k=4:=(by omega);have hS4:SBlk wr w.heap.size q.not:=hS;obtain⟨y0,y1,y2,y3⟩:=Blk.c4 hS4;obtain⟨r0,r1,r2,r3⟩:=Blk.z4 hR;obtain⟨f0,f1,f2,f3⟩:=Blk.f4 hR;obtain⟨Q,hQ⟩:∃ Q,Q=q.not:=⟨_,rfl⟩;rw [<-hQ] at y0 y1 y2 y3;have HQ:=qh hQ;have h1:SBlk _ _ _:=hR.setW (k:=0) (by omega) Q.a;have h2:SBlk _ _ _:=h1.setW (k:=1) (by omega) Q.b;have h3:SBlk _ _ _:=h2.setW (k:=2) (by omega) Q.c;have h4:SBlk _ _ _:=h3.setW (k:=3) (by omega) Q.d;have HZ:=qh h4;have HBZ:=qh ((((hB.setCell (p:=⟨w.heap.size+1,0,none⟩) (by dsimp only;omega) (.int .u64 (Q.a:Int))).setCell (p:=⟨w.heap.size+1,1,none⟩) (by dsimp only;omega) (.int .u64 (Q.b:Int))).setCell (p:=⟨w.heap.size+1,2,none⟩) (by dsimp only;omega) (.int .u64 (Q.c:Int))).setCell (p:=⟨w.heap.size+1,3,none⟩) (by dsimp only;omega) (.int .u64 (Q.d:Int)));clear hS hR hB hS4 hlt h1 h2 h3 h4 hQ;go_wp2_with fail;obtain⟨wz,hwz⟩:∃ wz,wz=(((wr.setCell ⟨w.heap.size+1,0,none⟩ (.int .u64 (Q.a:Int))).setCell ⟨w.heap.size+1,1,none⟩ (.int .u64 (Q.b:Int))).setCell ⟨w.heap.size+1,2,none⟩ (.int .u64 (Q.c:Int))).setCell ⟨w.heap.size+1,3,none⟩ (.int .u64 (Q.d:Int)):=⟨_,rfl⟩;have hz:=HZ.out;have hbz:=HBZ.out;rw [<-hwz] at hz hbz⊢;have z0:wz.cell? ⟨w.heap.size+1,0,none⟩=some (.int .u64 (Q.a:Int)):=hz.cell (k:=0) (by omega);have z1:wz.cell? ⟨w.heap.size+1,1,none⟩=some (.int .u64 (Q.b:Int)):=hz.cell (k:=1) (by omega);have z2:wz.cell? ⟨w.heap.size+1,2,none⟩=some (.int .u64 (Q.c:Int)):=hz.cell (k:=2) (by omega);have z3:wz.cell? ⟨w.heap.size+1,3,none⟩=some (.int .u64 (Q.d:Int)):=hz.cell (k:=3) (by omega);refine bodyPost_ret (v:=Qj7 Q) (by simp [results,Tryz.results214,go_sem,z0,z1,z2,z3,Qj7]) rfl ⟨by rw [HQ.out];rfl,hbz⟩
def Xo7 (lo hi:Int) (w:World) (e:Ending) (w':World):Prop:=∃ q,e= .returned (Qj7 q)/\SetOf q (J03 lo hi)/\Below w.heap.size w w'
set_option maxHeartbeats 1000000 in
theorem YU4 (lo hi:Nat) (hh:hi<=255) (w:World):
 Calls Tryz.prog 143 #[.int .i64 (lo:Int),.int .i64 (hi:Int)] w (Xo7 lo hi w):=by
 by_cases h:lo<=hi+1
 . refine(j12 lo hi hh w h).mono ?_;rintro e w' ⟨q,h1,h2,h3⟩;refine⟨q,h1,⟨h2.1,λ b hb=> ?_⟩,h3⟩;rw [h2.2 b hb];unfold Xs8 J03;rw [Bool.eq_iff_iff,decide_eq_true_eq,decide_eq_true_eq];omega
 . have HS:=qh (Sb2.start w);have i1:¬(lo:Int)<=(hi:Int):=by omega
   have HQ:Hid (SetOf ⟨0,0,0,0⟩ (J03 lo hi)):=qh ⟨⟨by decide,by decide,by decide,by decide⟩,λ b _=>by
    rw [jR3];unfold J03;rw [eq_comm,decide_eq_false_iff_not];omega⟩
   obtain⟨W,hW⟩:∃ W,(w.alloc (.cells #[.int .u64 0,.int .u64 0,.int .u64 0,.int .u64 0] 122)).alloc (.cells #[.int .u64 0,.int .u64 0,.int .u64 0,.int .u64 0] 122)=W:=⟨_,rfl⟩;have hS:Sb2 w W ⟨0,0,0,0⟩:=(by rw [<-hW];exact HS.out);obtain⟨y0,y1,y2,y3⟩:=Blk.z4 hS.set;obtain⟨r0,r1,r2,r3⟩:=Blk.z4 hS.res;obtain⟨f0,f1,f2,f3⟩:=Blk.f4 hS.res;have HS2:=qh hS;clear hS h HS;go_enter Tryz.func143,Tryz.ntmps143;go_wp2_with fail;go_loopw [6] (λ u wr=>u= .int .i64 (lo:Int)/\wr=W) (λ u _=>0)
   case atStart=>exact⟨rfl,rfl⟩
   case round=>
    obtain⟨rfl,rfl⟩:=hrel;clear hW;go_wp2_with fail;obtain⟨wz,hwz,hz,z0,z1,z2,z3⟩:=HS2.out.put_;rw [show (((0:Nat):Int))=0 from rfl] at hwz z0 z1 z2 z3;rw [<-hwz];refine bodyPost_ret (v:=Qj7 ⟨0,0,0,0⟩) (by simp [results,Tryz.results143,go_sem,z0,z1,z2,z3,Qj7]) rfl ⟨_,rfl,HQ.out,hz⟩
def orKp (q r:Q4) (k:Nat):Q4:=⟨if 0<k then q.a|||r.a else q.a,if 1<k then q.b|||r.b else q.b,if 2<k then q.c|||r.c else q.c,if 3<k then q.d|||r.d else q.d⟩
theorem zt9 (q r:Q4) {k:Nat} (hk:k<4):(orKp q r k).word k=q.word k:=by
 obtain rfl|rfl|rfl|rfl:k=0\/k=1\/k=2\/k=3:=by omega
 all_goals rfl
theorem zz3 (q r:Q4) {k:Nat} (hk:k<4):(orKp q r k).setW k (q.word k|||r.word k)=orKp q r (k+1):=by
 obtain rfl|rfl|rfl|rfl:k=0\/k=1\/k=2\/k=3:=by omega
 all_goals rfl
structure Un (w wr:World) (q r:Q4) (k:Nat):Prop where
 sa:SBlk wr w.heap.size (orKp q r k)
 sb:SBlk wr (w.heap.size+1) r
 re:SBlk wr (w.heap.size+2) ⟨0,0,0,0⟩
 be:Below w.heap.size w wr
theorem Un.drew {w wr:World} {q r:Q4} {k:Nat} (h:Un w wr q r k):Un w wr.drew q r k:=⟨h.sa.drew,h.sb.drew,h.re.drew,h.be.drew⟩
theorem Un.next {w wr:World} {q r:Q4} {k:Nat} (h:Un w wr q r k) (hk:k<4):Un w (wr.setCell ⟨w.heap.size,k,none⟩ (.int .u64 ((q.word k|||r.word k:Nat):Int))) q r (k+1):=by
 have hN:=h.sa.setW hk (q.word k|||r.word k);rw [zz3 q r hk] at hN;exact⟨hN,Blk.far h.sb (by dsimp only;omega) _,Blk.far h.re (by dsimp only;omega) _,h.be.setCell (p:=⟨w.heap.size,k,none⟩) (Nat.le_refl _) _⟩
set_option maxRecDepth 100000 in
set_option maxHeartbeats 2000000 in
theorem JV4 (q r:Q4) (hq:q.ok) (hr:r.ok) (w:World):
 Calls Tryz.prog 228 #[Qj7 q,Qj7 r] w λ e w'=>e= .returned (Qj7 (q.or r))/\Below w.heap.size w w':=by
 obtain⟨W,hW⟩:∃ W,((w.alloc (.cells #[.int .u64 (q.a:Int),.int .u64 (q.b:Int),.int .u64 (q.c:Int),.int .u64 (q.d:Int)] 122)).alloc (.cells #[.int .u64 (r.a:Int),.int .u64 (r.b:Int),.int .u64 (r.c:Int),.int .u64 (r.d:Int)] 122)).alloc (.cells #[.int .u64 0,.int .u64 0,.int .u64 0,.int .u64 0] 122)=W:=⟨_,rfl⟩
 have HU:Hid (Un w W q r 0):=qh (by
  rw [<-hW];refine⟨(Blk.alloc (Blk.alloc (Blk.new w _ _) _) _),Blk.alloc ?_ _,?_,(((Below.refl _ _).alloc (Nat.le_refl _) _).alloc (by simp) _).alloc (by simp;omega) _⟩
  . have:=Blk.new (w.alloc (.cells #[.int .u64 (q.a:Int),.int .u64 (q.b:Int),.int .u64 (q.c:Int),.int .u64 (q.d:Int)] 122)) 122 #[.int .u64 (r.a:Int),.int .u64 (r.b:Int),.int .u64 (r.c:Int),.int .u64 (r.d:Int)]
    simpa using this
  . have:=SBlk.new ((w.alloc (.cells #[.int .u64 (q.a:Int),.int .u64 (q.b:Int),.int .u64 (q.c:Int),.int .u64 (q.d:Int)] 122)).alloc (.cells #[.int .u64 (r.a:Int),.int .u64 (r.b:Int),.int .u64 (r.c:Int),.int .u64 (r.d:Int)] 122))
    simpa using this)
 unfold Qj7;go_enter Tryz.func228,Tryz.ntmps228;go_wp2_with fail;rw [show w.heap.size+1+1=w.heap.size+2 from rfl];go_loopw [6] (λ u wr=>∃ k:Nat,u= .int .i64 (k:Int)/\k<=4/\Hid (Un w wr q r k)) (λ u _=>4-(intOf u).toNat)
 case atStart=>exact⟨0,rfl,by omega,HU⟩
 case round=>
  obtain⟨k,rfl,hk,HK⟩:=hrel;clear HU hW;by_cases hlt:k<4
  . have y0:=HK.out.sa.cell hlt;rw [zt9 q r hlt] at y0;have y1:wr.frozen? ⟨w.heap.size,k,none⟩=false:=Blk.frozen HK.out.sa _;have y2:=HK.out.sb.cell hlt;have HN:=qh (HK.out.drew.next hlt);have HV:=qh (u64_or_nat (q.word k) (r.word k) (Q4.word_lt hq k) (Q4.word_lt hr k));obtain rfl|rfl|rfl|rfl:k=0\/k=1\/k=2\/k=3:=by omega
    . go_wp2_with fail;go_region
      all_goals go_wp2_with fail
      all_goals go_roundw
      case rel=>exact⟨1,rfl,by omega,by rw [HV.out];exact HN⟩
      case measure=>simp [intOf]
    . go_wp2_with fail;go_region
      all_goals go_wp2_with fail
      all_goals go_roundw
      case rel=>exact⟨2,rfl,by omega,by rw [HV.out];exact HN⟩
      case measure=>simp [intOf]
    . go_wp2_with fail;go_region
      all_goals go_wp2_with fail
      all_goals go_roundw
      case rel=>exact⟨3,rfl,by omega,by rw [HV.out];exact HN⟩
      case measure=>simp [intOf]
    . go_wp2_with fail;go_region
      all_goals go_wp2_with fail
      all_goals go_roundw
      case rel=>exact⟨4,rfl,by omega,by rw [HV.out];exact HN⟩
      case measure=>simp [intOf]
  . obtain rfl:k=4:=(by omega);have hS4:SBlk wr w.heap.size (q.or r):=HK.out.sa;have hR:=HK.out.re;have hB:=HK.out.be;obtain⟨y0,y1,y2,y3⟩:=Blk.c4 hS4;obtain⟨r0,r1,r2,r3⟩:=Blk.z4 hR;obtain⟨f0,f1,f2,f3⟩:=Blk.f4 hR;obtain⟨Q,hQ⟩:∃ Q,Q=q.or r:=⟨_,rfl⟩;rw [<-hQ] at y0 y1 y2 y3;have HQ:=qh hQ;have h1:SBlk _ _ _:=hR.setW (k:=0) (by omega) Q.a;have h2:SBlk _ _ _:=h1.setW (k:=1) (by omega) Q.b;have h3:SBlk _ _ _:=h2.setW (k:=2) (by omega) Q.c;have h4:SBlk _ _ _:=h3.setW (k:=3) (by omega) Q.d;have HZ:=qh h4;have HBZ:=qh ((((hB.setCell (p:=⟨w.heap.size+2,0,none⟩) (by dsimp only;omega) (.int .u64 (Q.a:Int))).setCell (p:=⟨w.heap.size+2,1,none⟩) (by dsimp only;omega) (.int .u64 (Q.b:Int))).setCell (p:=⟨w.heap.size+2,2,none⟩) (by dsimp only;omega) (.int .u64 (Q.c:Int))).setCell (p:=⟨w.heap.size+2,3,none⟩) (by dsimp only;omega) (.int .u64 (Q.d:Int)));clear hR hB hS4 hlt h1 h2 h3 h4 hQ HK;go_wp2_with fail;obtain⟨wz,hwz⟩:∃ wz,wz=(((wr.setCell ⟨w.heap.size+2,0,none⟩ (.int .u64 (Q.a:Int))).setCell ⟨w.heap.size+2,1,none⟩ (.int .u64 (Q.b:Int))).setCell ⟨w.heap.size+2,2,none⟩ (.int .u64 (Q.c:Int))).setCell ⟨w.heap.size+2,3,none⟩ (.int .u64 (Q.d:Int)):=⟨_,rfl⟩;have hz:=HZ.out;have hbz:=HBZ.out;rw [<-hwz] at hz hbz⊢;have z0:wz.cell? ⟨w.heap.size+2,0,none⟩=some (.int .u64 (Q.a:Int)):=hz.cell (k:=0) (by omega);have z1:wz.cell? ⟨w.heap.size+2,1,none⟩=some (.int .u64 (Q.b:Int)):=hz.cell (k:=1) (by omega);have z2:wz.cell? ⟨w.heap.size+2,2,none⟩=some (.int .u64 (Q.c:Int)):=hz.cell (k:=2) (by omega);have z3:wz.cell? ⟨w.heap.size+2,3,none⟩=some (.int .u64 (Q.d:Int)):=hz.cell (k:=3) (by omega);refine bodyPost_ret (v:=Qj7 Q) (by simp [results,Tryz.results228,go_sem,z0,z1,z2,z3,Qj7]) rfl ⟨by rw [HQ.out];rfl,hbz⟩
end Go.Proofs.YtngepacmgabmaaaGreatDoor
