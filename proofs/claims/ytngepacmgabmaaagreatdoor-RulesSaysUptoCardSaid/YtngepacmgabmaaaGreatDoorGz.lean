/- The reference's reader in memory. Walks:; The reference's reader's box by the plai .. -/
import Derived.Test.YtngepacmgabmaaaGreatDoorGw
namespace Go.Proofs.YtngepacmgabmaaaGreatDoor
open Go.RowKit
set_option linter.unusedVariables false
set_option linter.unusedSimpArgs false
def Tb (w:World) (g:Nat) (s:ByteArray) (a op e r:Int):Prop:=Blk w g 157 #[.string s,.int .i64 a,.int .i64 op,.int .i64 e,.int .i64 r]
def pk (s:ByteArray) (y:Sx):ByteArray:=if nx s y<0 then ByteArray.empty else str [(nx s y).toNat.toUInt8]
section
variable {w w':World} {g:Nat} {s:ByteArray} {a op e r:Int}
theorem Tb.facts (h:Tb w g s a op e r):w.cell? ⟨g,0,none⟩=some (.string s)/\w.cell? ⟨g,1,none⟩=some (.int .i64 a)/\w.cell? ⟨g,2,none⟩=some (.int .i64 op)/\w.cell? ⟨g,3,none⟩=some (.int .i64 e)/\w.cell? ⟨g,4,none⟩=some (.int .i64 r):=⟨h.cell 0,h.cell 1,h.cell 2,h.cell 3,h.cell 4⟩
theorem Tb.froz (h:Tb w g s a op e r) (i:Nat):w.frozen? ⟨g,i,none⟩=false:=Blk.frozen h i
theorem Tb.drewN (h:Tb w g s a op e r) (n:Nat):Tb (w.drewN n) g s a op e r:=Blk.drewN h n
theorem Tb.below (h:Tb w g s a op e r) (hb:Below w.heap.size w w'):Tb w' g s a op e r:=Blk.below h hb (Blk.lt h)
theorem Tb.setP (h:Tb w g s a op e r) (p:Int):Tb (w.setCell ⟨g,1,none⟩ (.int .i64 p)) g s p op e r:=Blk.set_ h 1 _
theorem Tb.setO (h:Tb w g s a op e r) (o:Int):Tb (w.setCell ⟨g,2,none⟩ (.int .i64 o)) g s a o e r:=Blk.set_ h 2 _
theorem Tb.setE (h:Tb w g s a op e r) (c at_:Int):Tb ((w.setCell ⟨g,3,none⟩ (.int .i64 c)).setCell ⟨g,4,none⟩ (.int .i64 at_)) g s a op c at_:=Blk.set_ (Blk.set_ h 3 _) 4 _
end
theorem Qo3 {s:ByteArray} {y:Sx} (h:nx s y<0):pk s y=ByteArray.empty:=if_pos h
theorem QQ0 {s:ByteArray} {y:Sx} (h:0<=nx s y):pk s y=str [(nx s y).toNat.toUInt8]:=if_neg (by omega)
section
variable (s:ByteArray) (hs:s.size<=200) (y:Sx) (a op r:Int) (g:Nat) (w:World)
include hs
set_option maxHeartbeats 1000000 in
theorem qJ8 (ha:y.e=0->a=y.p) (hR:Tb w g s a op y.e r):
 Calls Tryz.prog 148 #[.pointer (some ⟨g,0,none⟩)] w λ e w'=>e= .returned (.string (pk s y))/\∃ q,w'=w.drewN q:=by
 obtain⟨c0,c1,c2,c3,_⟩:=hR.facts;obtain⟨N,hN⟩:∃ N,N=pk s y:=⟨_,rfl⟩;rw [<-hN];have HN:=qh hN;clear hN hR;by_cases h2:y.e=0
 . obtain rfl:=ha h2;rw [h2] at c3;by_cases hlt:y.p<s.size
   . have HX:Hid (N=s.extract y.p (y.p+1)):=qh (by
      have e1:=KA1 h2 hlt;rw [HN.out,QQ0 (by rw [e1];omega),e1];rw [Int.toNat_natCast,show s[y.p].toNat.toUInt8=s[y.p] from UInt8.ofNat_toNat];have:=qE6 [] s y.p hlt;rw [show str []=ByteArray.empty from rfl,ByteArray.empty_append,List.nil_append] at this;exact this.symm)
     have hl1:decide ((y.p:Int)<(s.size:Int))=true:=decide_eq_true (by omega);have hw:IntKind.i64.wrap ((y.p:Int)+1)=(y.p:Int)+1:=IntWalk.i64_in _ (by omega);go_enter Tryz.func148,Tryz.ntmps148;go_wp2_with fail;go_quiet (fail)
     go_wp2_with fail;go_quiet (fail)
     go_wp2_with fail;go_ret;exact⟨by rw [HX.out];rfl,_,World.drewN_drewN _ _ _⟩
   . have HX:Hid (N=ByteArray.empty):=qh (HN.out.trans (Qo3 (by rw [Kq7 λ k=>hlt k.2];decide)));have hl1:decide ((y.p:Int)<(s.size:Int))=false:=decide_eq_false (by omega);go_enter Tryz.func148,Tryz.ntmps148;go_wp2_with fail;go_quiet (fail)
     go_wp2_with fail;go_ret;exact⟨by rw [HX.out];rfl,_,rfl⟩
 . have f2:(y.e==0)=false:=(by rw [beq_eq_false_iff_ne];exact h2);have HX:Hid (N=ByteArray.empty):=qh (HN.out.trans (Qo3 (by rw [kb2 h2];decide)));go_enter Tryz.func148,Tryz.ntmps148;go_wp2_with fail;go_quiet (fail)
   go_wp2_with fail;go_ret;exact⟨by rw [HX.out];rfl,_,rfl⟩
omit hs in
theorem Zg6 (c p:Int) (e:Int) (h:¬e=0) (hR:Tb w g s a op e r):
 Calls Tryz.prog 118 #[.pointer (some ⟨g,0,none⟩),.int .i64 c,.int .i64 p] w λ e w'=>e= .returned (.tuple #[])/\w'=w:=by
 obtain⟨c0,c1,c2,c3,_⟩:=hR.facts;have f2:(e==0)=false:=by rw [beq_eq_false_iff_ne];exact h
 clear hR h;go_enter Tryz.func118,Tryz.ntmps118;go_wp2_with fail
 go_end0
 exact⟨rfl,rfl⟩
omit hs in
theorem zF3 (c p:Int) (hR:Tb w g s a op 0 r):
 Calls Tryz.prog 118 #[.pointer (some ⟨g,0,none⟩),.int .i64 c,.int .i64 p] w λ e w'=>e= .returned (.tuple #[])/\Tb w' g s a op c p/\KeptOff w w' g:=by
 obtain⟨c0,c1,c2,c3,c4⟩:=hR.facts;have f3:=hR.froz 3;have f4:=hR.froz 4;have H:=qh hR;clear hR;go_enter Tryz.func118,Tryz.ntmps118;go_wp2_with fail
 go_end0
 exact⟨rfl,H.out.setE c p,(KeptOff.refl.set_ 3 _).set_ 4 _⟩
end
theorem Qo4 (k:Int) (A:Option Addr) (l c:Nat) (w:World):Calls Tryz.prog 149 #[.int .i64 k,.slice A l c] w λ e w'=>e= .returned (.agg #[.int .i64 k,.int .u64 0,.int .u64 0,.int .u64 0,.int .u64 0,.slice A l c])/\Below w.heap.size w w':=by
 go_enter Tryz.func149,Tryz.ntmps149;go_wp2_with fail;obtain⟨W1,h1⟩:∃ W1,w.alloc (.cells #[.int .i64 k,.int .u64 0,.int .u64 0,.int .u64 0,.int .u64 0,.slice A l c] 125)=W1:=⟨_,rfl⟩;rw [h1];have hres:Blk W1 w.heap.size 125 #[.int .i64 k,.int .u64 0,.int .u64 0,.int .u64 0,.int .u64 0,.slice A l c]:=by rw [<-h1];exact Blk.new _ _ _
 have hb:Below w.heap.size w W1:=by rw [<-h1];exact(Below.refl _ _).alloc (Nat.le_refl _) _
 obtain⟨z0,z1,z2,z3,z4,z5⟩:=Blk.c6 hres;clear h1 hres;refine bodyPost_ret (v:= .agg #[.int .i64 k,.int .u64 0,.int .u64 0,.int .u64 0,.int .u64 0,.slice A l c]) (by simp [results,Tryz.results149,go_sem,z0,z1,z2,z3,z4,z5]) rfl ⟨rfl,hb⟩
def Tq (m:Int) (w:World) (g:Nat) (s:ByteArray) (y:Sx) (op:Int):Prop:=∃ a r:Int,Tb w g s a op y.e r/\(y.e=0->a=(y.p:Int))/\(¬y.e=0->r=(y.p:Int))/\0<=a/\a<=m
section
variable {m:Int} {w w':World} {g:Nat} {s:ByteArray} {y:Sx} {op:Int}
theorem Tq.below (h:Tq m w g s y op) (hb:Below w.heap.size w w'):Tq m w' g s y op:=by
 obtain⟨a,r,h,k⟩:=h;exact⟨a,r,h.below hb,k⟩
theorem Tq.drewN (h:Tq m w g s y op) (n:Nat):Tq m (w.drewN n) g s y op:=by
 obtain⟨a,r,h,k⟩:=h;exact⟨a,r,h.drewN n,k⟩
theorem Tq.alloc (h:Tq m w g s y op) (o:Obj):Tq m (w.alloc o) g s y op:=by
 obtain⟨a,r,h,k⟩:=h;exact⟨a,r,Blk.alloc h o,k⟩
theorem Tq.lt (h:Tq m w g s y op):g<w.heap.size:=by
 obtain⟨a,r,h,k⟩:=h;exact Blk.lt h
theorem Tq.more (h:Tq m w g s y op) {m':Int} (hm:m<=m'):Tq m' w g s y op:=by
 obtain⟨a,r,h,k1,k2,k3,k4⟩:=h;exact⟨a,r,h,k1,k2,k3,by omega⟩
theorem Tq.far (h:Tq m w g s y op) {p:Addr} (hp:g≠p.block) (u:Value):Tq m (w.setCell p u) g s y op:=by
 obtain⟨a,r,h,k⟩:=h;exact⟨a,r,Blk.far h hp u,k⟩
theorem Tq.at0 (h:Tq m w g s y op) (he:y.e=0):∃ r:Int,Tb w g s (y.p:Int) op 0 r:=by
 obtain⟨a,r,h,k1,k2,k3,k4⟩:=h;rw [he] at h;rw [k1 he] at h;exact⟨r,h⟩
theorem Tq.of0 {r:Int} (h:Tb w g s (y.p:Int) op 0 r) (he:y.e=0) (hm:(y.p:Int)<=m):Tq m w g s y op:=⟨_,r,by rw [he];exact h,λ _=>rfl,λ k=>absurd he k,by omega,hm⟩
theorem Tq.up (h:Tq m w g s y op) (he:y.e=0) (hm:(y.p:Int)+1<=m):Tq m (w.setCell ⟨g,1,none⟩ (.int .i64 ((y.p:Int)+1))) g s y.up op:=by
 obtain⟨r,h⟩:=h.at0 he;exact Tq.of0 (y:=y.up) (r:=r) (by have:=h.setP ((y.p:Int)+1);exact this) he (by show ((y.p+1:Nat):Int)<=m;omega)
theorem Tq.opn (h:Tq m w g s y op) (o:Int):Tq m (w.setCell ⟨g,2,none⟩ (.int .i64 o)) g s y o:=by
 obtain⟨a,r,h,k⟩:=h;exact⟨a,r,h.setO o,k⟩
end
theorem Xj2 (s:ByteArray) (y:Sx) (c:UInt8):((pk s y).toList== [c])=(nx s y==(c.toNat:Int)):=by
 rw [Lib.toList_data,Bool.eq_iff_iff,beq_iff_eq,beq_iff_eq];have hlo:=Kj4 s y;by_cases h:nx s y<0
 . rw [Qo3 h];constructor
   . intro e;cases e
   . intro e;have:=c.toNat_lt;omega
 . rw [QQ0 (by omega)]
   have e2:(nx s y).toNat.toUInt8.toNat=(nx s y).toNat:=by
    rw [UInt8.toNat_ofNat'];omega
   constructor
   . intro e
     have e1:(nx s y).toNat.toUInt8=c:=by
      have e0: [(nx s y).toNat.toUInt8]= [c]:=e;injection e0
     rw [<-e1,e2];omega
   . intro e;have e1:(nx s y).toNat.toUInt8=c:=UInt8.toNat_inj.1 (by rw [e2];omega);show [(nx s y).toNat.toUInt8]= [c];rw [e1]
theorem ZG7 (s:ByteArray) (y:Sx):(pk s y).toList.isEmpty=decide (nx s y<0):=by
 rw [Lib.toList_data];by_cases h:nx s y<0
 . rw [Qo3 h,decide_eq_true h];rfl
 . rw [QQ0 (by omega),decide_eq_false h];rfl
theorem YF5 (s:ByteArray) (hs:s.size<=200) (m:Int) (y:Sx) (op:Int) (g:Nat) (w:World) (hR:Tq m w g s y op):
 Calls Tryz.prog 148 #[.pointer (some ⟨g,0,none⟩)] w λ e w'=>e= .returned (.string (pk s y))/\∃ q,w'=w.drewN q:=by
 obtain⟨a,r,h,k1,k2,k3,k4⟩:=hR;exact qJ8 s hs y a op r g w k1 h
theorem kq7 (s:ByteArray) (m:Int) (y:Sx) (op:Int) (g:Nat) (w:World) (c p:Int) (hc:¬c=0) (hp:y.e=0->p=(y.p:Int)) (hR:Tq m w g s y op):
 Calls Tryz.prog 118 #[.pointer (some ⟨g,0,none⟩),.int .i64 c,.int .i64 p] w λ e w'=>e= .returned (.tuple #[])/\Tq m w' g s (y.fl c) op/\KeptOff w w' g:=by
 obtain⟨a,r,h,k1,k2,k3,k4⟩:=hR;by_cases he:y.e=0
 . rw [he] at h;refine(zF3 s a op r g w c p h).mono ?_;rintro e w' ⟨h1,h2,h3⟩;have e1:y.fl c=⟨y.p,c⟩:=if_pos he;refine⟨h1,?_,h3⟩;rw [e1];exact⟨a,p,h2,λ k=>absurd k hc,λ _=>hp he,k3,k4⟩
 . refine(Zg6 s a op r g w c p y.e he h).mono ?_;rintro e w' ⟨h1,rfl⟩;have e1:y.fl c=y:=if_neg he;refine⟨h1,?_,KeptOff.refl⟩;rw [e1];exact⟨a,r,h,k1,k2,k3,k4⟩
theorem Tq.far6 {m:Int} {w:World} {g:Nat} {s:ByteArray} {y:Sx} {op:Int} {gg:Nat} (h:Tq m w g s y op) (hne:gg≠g) (x0 x1 x2 x3 x4:Int) (xA:Option Addr) (xl xc:Nat):Tq m ((((((w.setCell ⟨gg,0,none⟩ (.int .i64 x0)).setCell ⟨gg,1,none⟩ (.int .u64 x1)).setCell ⟨gg,2,none⟩ (.int .u64 x2)).setCell ⟨gg,3,none⟩ (.int .u64 x3)).setCell ⟨gg,4,none⟩ (.int .u64 x4)).setCell ⟨gg,5,none⟩ (.slice xA xl xc)) g s y op:=by
 obtain⟨a,r,h,k⟩:=h;exact⟨a,r,Blk.far6 h hne x0 x1 x2 x3 x4 xA xl xc,k⟩
section
variable (k x0 x1 x2 x3 x4 y0 y1 y2 y3 y4:Int) (A B:Option Addr) (l c m d:Nat) (w:World)
theorem Ym3:Calls Tryz.prog 149 #[.int .i64 k,.slice (some ⟨w.heap.size,0,none⟩) 2 2] (w.alloc (.cells #[.int .i64 x0,.int .u64 x1,.int .u64 x2,.int .u64 x3,.int .u64 x4,.slice A l c,.int .i64 y0,.int .u64 y1,.int .u64 y2,.int .u64 y3,.int .u64 y4,.slice B m d] 125)) (zk6 k (six x0 x1 x2 x3 x4 A l c) (six y0 y1 y2 y3 y4 B m d) w):=by
 refine(Qo4 k (some ⟨w.heap.size,0,none⟩) 2 2 _).mono ?_;rintro e w' ⟨rfl,hb⟩;have hz:=hb.size;have hz1:(w.alloc (.cells #[.int .i64 x0,.int .u64 x1,.int .u64 x2,.int .u64 x3,.int .u64 x4,.slice A l c,.int .i64 y0,.int .u64 y1,.int .u64 y2,.int .u64 y3,.int .u64 y4,.slice B m d] 125)).heap.size=w.heap.size+1:=by simp
 refine⟨w.heap.size,rfl,λ j u h=> ?_,Nat.le_refl _,by omega,((Below.refl w.heap.size w).alloc (Nat.le_refl _) _).trans (hb.mono (by omega))⟩;rw [hb.cell (show w.heap.size<_ by omega)];exact Y38 w [.int .i64 x0,.int .u64 x1,.int .u64 x2,.int .u64 x3,.int .u64 x4,.slice A l c,.int .i64 y0,.int .u64 y1,.int .u64 y2,.int .u64 y3,.int .u64 y4,.slice B m d] _ j u h
end
def TsRes (s:ByteArray) (op:Int) (g:Nat) (t:Rx×Sx) (w:World) (e:Ending) (w':World):Prop:=∃ (x0 x1 x2 x3 x4:Int) (xA:Option Addr) (xl xc:Nat),e= .returned (.agg #[.int .i64 x0,.int .u64 x1,.int .u64 x2,.int .u64 x3,.int .u64 x4,.slice xA xl xc])/\Tq (270-op) w' g s t.2 op/\KeptOff w w' g/\(t.2.e=0->∃ n,RxT w' (λ b=>w.heap.size<=b/\b<w'.heap.size) n t.1 (six x0 x1 x2 x3 x4 xA xl xc))
def q10 (F:FuncId) (op:Int) (s:ByteArray) (f:Sx->Rx×Sx):Prop:=∀ (g:Nat) (w:World) (x:Sx),x.e=0->x.p<=s.size->Tq (270-op) w g s x op->Calls Tryz.prog F #[.pointer (some ⟨g,0,none⟩)] w (TsRes s op g (f x) w)
structure Ty (m:Int) (w:World) (g gT:Nat) (s:ByteArray) (y:Sx) (op:Int) (cs:List Value) (wr:World):Prop where
 rd:Tq m wr g s y op
 re:Blk wr w.heap.size 125 #[.int .i64 0,.int .u64 0,.int .u64 0,.int .u64 0,.int .u64 0,.slice none 0 0]
 te:Blk wr gT 125 cs.toArray
 ko:KeptOff w wr g
 lt:g<w.heap.size
 gl:w.heap.size<gT
section
variable {m m':Int} {w wr wr':World} {g gT:Nat} {s:ByteArray} {y y':Sx} {op op':Int} {cs:List Value}
theorem Ty.step (h:Ty m w g gT s y op cs wr) (hb:Below wr.heap.size wr wr'):Ty m w g gT s y op cs wr':=⟨h.rd.below hb,Blk.below h.re hb (Blk.lt h.re),Blk.below h.te hb (Blk.lt h.te),h.ko.tr (KeptOff.of_below hb),h.lt,h.gl⟩
theorem Ty.kept (h:Ty m w g gT s y op cs wr) (hr:Tq m' wr' g s y' op') (hk:KeptOff wr wr' g):Ty m' w g gT s y' op' cs wr':=⟨hr,hk.blk h.re (by have:=h.lt;omega),hk.blk h.te (by have:=h.lt;have:=h.gl;omega),h.ko.tr hk,h.lt,h.gl⟩
theorem Ty.up (h:Ty m w g gT s y op cs wr) (he:y.e=0) (hm:(y.p:Int)+1<=m):Ty m w g gT s y.up op cs (wr.setCell ⟨g,1,none⟩ (.int .i64 ((y.p:Int)+1))):=by
 have h1:=h.lt;have h2:=h.gl;exact⟨h.rd.up he hm,Blk.far h.re (by dsimp only;omega) _,Blk.far h.te (by dsimp only;omega) _,h.ko.set_ 1 _,h.lt,h.gl⟩
theorem Ty.opn (h:Ty m w g gT s y op cs wr) (o:Int):Ty m w g gT s y o cs (wr.setCell ⟨g,2,none⟩ (.int .i64 o)):=by
 have h1:=h.lt;have h2:=h.gl;exact⟨h.rd.opn o,Blk.far h.re (by dsimp only;omega) _,Blk.far h.te (by dsimp only;omega) _,h.ko.set_ 2 _,h.lt,h.gl⟩
theorem Ty.put (h:Ty m w g gT s y op cs wr) (hl:cs.length=6) (x0 x1 x2 x3 x4:Int) (xA:Option Addr) (xl xc:Nat):Ty m w g gT s y op (six x0 x1 x2 x3 x4 xA xl xc) ((((((wr.setCell ⟨gT,0,none⟩ (.int .i64 x0)).setCell ⟨gT,1,none⟩ (.int .u64 x1)).setCell ⟨gT,2,none⟩ (.int .u64 x2)).setCell ⟨gT,3,none⟩ (.int .u64 x3)).setCell ⟨gT,4,none⟩ (.int .u64 x4)).setCell ⟨gT,5,none⟩ (.slice xA xl xc)):=⟨h.rd.far6 (by have:=h.lt;have:=h.gl;omega) x0 x1 x2 x3 x4 xA xl xc,Blk.far6 h.re (by have:=h.gl;omega) x0 x1 x2 x3 x4 xA xl xc,J42 h.te hl x0 x1 x2 x3 x4 xA xl xc,h.ko.put6 (by have:=h.gl;omega) x0 x1 x2 x3 x4 xA xl xc,h.lt,h.gl⟩
theorem Ty.other {g4:Nat} (h:Ty m w g gT s y op cs wr) (h4:w.heap.size<g4) (hne:g4≠gT) (x0 x1 x2 x3 x4:Int) (xA:Option Addr) (xl xc:Nat):Ty m w g gT s y op cs ((((((wr.setCell ⟨g4,0,none⟩ (.int .i64 x0)).setCell ⟨g4,1,none⟩ (.int .u64 x1)).setCell ⟨g4,2,none⟩ (.int .u64 x2)).setCell ⟨g4,3,none⟩ (.int .u64 x3)).setCell ⟨g4,4,none⟩ (.int .u64 x4)).setCell ⟨g4,5,none⟩ (.slice xA xl xc)):=⟨h.rd.far6 (by have:=h.lt;omega) x0 x1 x2 x3 x4 xA xl xc,Blk.far6 h.re (by omega) x0 x1 x2 x3 x4 xA xl xc,Blk.far6 h.te hne x0 x1 x2 x3 x4 xA xl xc,h.ko.put6 (by omega) x0 x1 x2 x3 x4 xA xl xc,h.lt,h.gl⟩
end
set_option maxRecDepth 100000 in
set_option maxHeartbeats 8000000 in
theorem kR7 (s:ByteArray) (hs:s.size<=200) (op:Int) (hop:0<=op/\op<=20) (R:Sx->Rx×Sx) (hRow:q10 147 op s R) (hGo:Go0 s R):q10 117 op s (atF s R):=by
 intro g w x he hp hR;have HROW:=qh hRow;have HGO:=qh hGo;clear hRow hGo;obtain⟨W,hW⟩:∃ W,w.alloc (.cells #[.int .i64 0,.int .u64 0,.int .u64 0,.int .u64 0,.int .u64 0,.slice none 0 0] 125)=W:=⟨_,rfl⟩;have hWR:Tq (270-op) W g s x op:=by rw [<-hW];exact hR.alloc _
 have hWE:Blk W w.heap.size 125 #[.int .i64 0,.int .u64 0,.int .u64 0,.int .u64 0,.int .u64 0,.slice none 0 0]:=by rw [<-hW];exact Blk.new w _ _
 have hWK:KeptOff w W g:=by rw [<-hW];exact KeptOff.refl.alloc _
 have hglt:g<w.heap.size:=hR.lt;have hWz:W.heap.size=w.heap.size+1:=by rw [<-hW];simp
 have C0:=qh (HROW.out g W x he hp hWR);have HWE:=qh hWE;have HWK:=qh hWK;have hY0:=HGO.out x he hp;obtain⟨F,hF⟩:∃ F,F=atF s R x:=⟨_,rfl⟩;rw [<-hF];have hFx:F=lpA s R (s.size+1) (R x).1 (R x).2:=hF;obtain⟨Y0,hY⟩:∃ Y0,Y0=R x:=⟨_,rfl⟩;rw [<-hY] at C0 hFx hY0;have HF:=qh hFx;clear hWR hWE hWK hR hF hFx hY;go_enter Tryz.func117,Tryz.ntmps117;go_wp2_with fail;refine C0.out.mono ?_;rintro e w1 ⟨x0,x1,x2,x3,x4,xA,xl,xc,rfl,hr1,hk1,ht1⟩;have hz1:w.heap.size+1<=w1.heap.size:=by have:=hk1.size;omega
 have hX1:Ty (270-op) w g w1.heap.size s Y0.2 op (six x0 x1 x2 x3 x4 xA xl xc) (w1.alloc (.cells #[.int .i64 x0,.int .u64 x1,.int .u64 x2,.int .u64 x3,.int .u64 x4,.slice xA xl xc] 125)):=⟨hr1.alloc _,Blk.alloc (hk1.blk HWE.out (by omega)) _,Blk.new w1 _ _,(HWK.out.tr hk1).alloc _,hglt,by omega⟩
 have HT1:Hid (Y0.2.e=0->∃ n,RxT (w1.alloc (.cells #[.int .i64 x0,.int .u64 x1,.int .u64 x2,.int .u64 x3,.int .u64 x4,.slice xA xl xc] 125)) (InT w w1.heap.size (w1.alloc (.cells #[.int .i64 x0,.int .u64 x1,.int .u64 x2,.int .u64 x3,.int .u64 x4,.slice xA xl xc] 125))) n Y0.1 (six x0 x1 x2 x3 x4 xA xl xc)):=qh λ hy=>by
  obtain⟨n,hn⟩:=ht1 hy;refine⟨n,(hn.below ((Below.refl _ _).alloc (Nat.le_refl _) _) λ b hb=>hb.2).weak λ b hb=>⟨by omega,by simp;omega,by omega⟩⟩
 have HX1:=qh hX1;clear hX1 hr1 hk1 ht1 hW hWz;go_wp2_with fail;obtain⟨gT,hgT⟩:∃ gT,w1.heap.size=gT:=⟨_,rfl⟩;rw [hgT] at HX1 HT1⊢;obtain⟨W1,hW1⟩:∃ W1,w1.alloc (.cells #[.int .i64 x0,.int .u64 x1,.int .u64 x2,.int .u64 x3,.int .u64 x4,.slice xA xl xc] 125)=W1:=⟨_,rfl⟩;rw [hW1] at HX1 HT1⊢;clear hW1 hgT hz1
 go_loopg [7] (s.size+1) (λ q _ wr=>∃ (m:Nat) (t:Rx) (y:Sx) (x0 x1 x2 x3 x4:Int) (xA:Option Addr) (xl xc:Nat),q=m/\y.p<=s.size/\(y.e=0->s.size-y.p<m)/\Hid (F=lpA s R m t y)/\Hid (Ty (270-op) w g gT s y op (six x0 x1 x2 x3 x4 xA xl xc) wr)/\Hid (y.e=0->∃ n,RxT wr (InT w gT wr) n t (six x0 x1 x2 x3 x4 xA xl xc)))
 case atStart=>exact⟨s.size+1,Y0.1,Y0.2,x0,x1,x2,x3,x4,xA,xl,xc,rfl,hY0.1,λ _=>by omega,HF,HX1,HT1⟩
 case round=>
  clear HX1 HT1 HF;obtain⟨m,t,y,x0,x1,x2,x3,x4,xA,xl,xc,hqm,hyp,hq,HFq,HX,HT⟩:=hrel;have HG:=qh hqm;clear hqm;have CP:=qh (YF5 s hs (270-op) y op g wr HX.out.rd);by_cases h124:nx s y=124
  . have hys:=Jo0 (s:=s) (x:=y) (by omega);obtain⟨m,rfl⟩:∃ m',m=m'+1:=⟨m-1,by have:=hq hys.1;omega⟩;have hup:=kx8 (s:=s) (x:=y) (by omega);have hue:y.up.e=0:=hys.1;have hF2:F=lpA s R m (jG1 5 t (R y.up).1) (R y.up).2:=HFq.out.trans (z86 h124);have e124:((pk s y).toList== [124])=true:=(by rw [Xj2];exact beq_iff_eq.2 h124);have hY2:=HGO.out y.up hue hup.hi;have CR:=λ w' (hr:Tq (270-op) w' g s y.up op)=>HROW.out g w' y.up hue hup.hi hr
    obtain⟨Y2,hY2e⟩:∃ Y2,Y2=R y.up:=⟨_,rfl⟩;rw [<-hY2e] at CR hF2 hY2;have CR:=qh CR;have HF2:=qh hF2;have hyq:=hq hys.1;have hup1:y.up.p=y.p+1:=rfl;have hys1:=hys.1;have hys2:=hys.2;clear hF2 hY2e h124 hq hys;go_wp2_with fail;refine CP.out.mono ?_;rintro e w1 ⟨rfl,qq,hqq⟩;have hbq:Below wr.heap.size wr w1:=(by rw [hqq];exact below_drewN (Below.refl _ _) qq);have HX9:=qh (HX.out.step hbq)
    have HT9:Hid (y.e=0->∃ n,RxT w1 (InT w gT w1) n t (six x0 x1 x2 x3 x4 xA xl xc)):=qh λ hy=>by
     obtain⟨n,hn⟩:=HT.out hy;exact⟨n,(hn.below hbq λ b hb=>hb.2.1).weak λ b hb=>⟨hb.1,Nat.lt_of_lt_of_le hb.2.1 hbq.size,hb.2.2⟩⟩
    clear hqq hbq;obtain⟨rr,hrr⟩:=HX9.out.rd.at0 hys1;have c1:=hrr.cell 1;have cf1:=hrr.froz 1;have hwp:IntKind.i64.wrap ((y.p:Int)+1)=(y.p:Int)+1:=IntWalk.i64_in _ (by omega);have HXu:=qh (HX9.out.up hys1 (by omega))
    have HTu:Hid (∃ n,RxT (w1.setCell ⟨g,1,none⟩ (.int .i64 ((y.p:Int)+1))) (InT w gT (w1.setCell ⟨g,1,none⟩ (.int .i64 ((y.p:Int)+1)))) n t (six x0 x1 x2 x3 x4 xA xl xc)):=qh (by
     obtain⟨n,hn⟩:=HT9.out hys1;have hgl:=HX9.out.lt;exact⟨n,(hn.store (p:=⟨g,1,none⟩) (λ k=>by have:=k.1;dsimp only at this;omega) _).weak λ b hb=>⟨hb.1,by simpa [World.setCell] using hb.2.1,hb.2.2⟩⟩)
    go_upto_region 4 with fail;obtain⟨w2,hw2⟩:∃ w2,w1.setCell ⟨g,1,none⟩ (.int .i64 ((y.p:Int)+1))=w2:=⟨_,rfl⟩;have HX2:=HXu;have HT2:=HTu;rw [hw2] at HX2 HT2⊢;clear hw2 HXu HTu c1 cf1 hrr HX9 HT9;have hxd:=HX2.out.step (below_drewN (Below.refl _ _) 1:Below w2.heap.size w2 w2.drew)
    have HTd:Hid (∃ n,RxT w2.drew (InT w gT w2.drew) n t (six x0 x1 x2 x3 x4 xA xl xc)):=qh (by
     obtain⟨n,hn⟩:=HT2.out;exact⟨n,RxT.keep (w:=w2) (w':=w2.drew) (P:=InT w gT w2) (Q:=InT w gT w2.drew) (λ _ hb=>hb) (λ _ _=>rfl) hn⟩)
    have s0:w2.drew.cell? ⟨gT,0,none⟩=some (.int .i64 x0):=hxd.te.cell 0;have fs0:w2.drew.frozen? ⟨gT,0,none⟩=false:=hxd.te.frozen 0;have s1:w2.drew.cell? ⟨gT,1,none⟩=some (.int .u64 x1):=hxd.te.cell 1;have fs1:w2.drew.frozen? ⟨gT,1,none⟩=false:=hxd.te.frozen 1;have s2:w2.drew.cell? ⟨gT,2,none⟩=some (.int .u64 x2):=hxd.te.cell 2;have fs2:w2.drew.frozen? ⟨gT,2,none⟩=false:=hxd.te.frozen 2;have s3:w2.drew.cell? ⟨gT,3,none⟩=some (.int .u64 x3):=hxd.te.cell 3;have fs3:w2.drew.frozen? ⟨gT,3,none⟩=false:=hxd.te.frozen 3;have s4:w2.drew.cell? ⟨gT,4,none⟩=some (.int .u64 x4):=hxd.te.cell 4;have fs4:w2.drew.frozen? ⟨gT,4,none⟩=false:=hxd.te.frozen 4;have s5:w2.drew.cell? ⟨gT,5,none⟩=some (.slice xA xl xc):=hxd.te.cell 5;have fs5:w2.drew.frozen? ⟨gT,5,none⟩=false:=hxd.te.frozen 5;go_wp2_with fail
    go_region_law (first
     |(go_simp;go_at_call 147;(refine(CR.out _ hxd.rd).mono ?_);rintro e w3 ⟨v0,v1,v2,v3,v4,vA,vl,vc,rfl,hr3,hk3,ht3⟩;have hx3:=hxd.kept hr3 hk3;have u0:w3.cell? ⟨gT,0,none⟩=some (.int .i64 x0):=hx3.te.cell 0;have fu0:w3.frozen? ⟨gT,0,none⟩=false:=hx3.te.frozen 0;have u1:w3.cell? ⟨gT,1,none⟩=some (.int .u64 x1):=hx3.te.cell 1;have fu1:w3.frozen? ⟨gT,1,none⟩=false:=hx3.te.frozen 1;have u2:w3.cell? ⟨gT,2,none⟩=some (.int .u64 x2):=hx3.te.cell 2;have fu2:w3.frozen? ⟨gT,2,none⟩=false:=hx3.te.frozen 2;have u3:w3.cell? ⟨gT,3,none⟩=some (.int .u64 x3):=hx3.te.cell 3;have fu3:w3.frozen? ⟨gT,3,none⟩=false:=hx3.te.frozen 3;have u4:w3.cell? ⟨gT,4,none⟩=some (.int .u64 x4):=hx3.te.cell 4;have fu4:w3.frozen? ⟨gT,4,none⟩=false:=hx3.te.frozen 4;have u5:w3.cell? ⟨gT,5,none⟩=some (.slice xA xl xc):=hx3.te.cell 5;have fu5:w3.frozen? ⟨gT,5,none⟩=false:=hx3.te.frozen 5)
     |(go_simp;go_at_call 149;(refine(Ym3 5 x0 x1 x2 x3 x4 v0 v1 v2 v3 v4 xA vA xl xc vl vc w3).mono ?_);rintro e w4 ⟨N,rfl,hc4,hN1,hN2,hb4⟩;have hx4:=hx3.step hb4;have q0:w4.cell? ⟨gT,0,none⟩=some (.int .i64 x0):=hx4.te.cell 0;have fq0:w4.frozen? ⟨gT,0,none⟩=false:=hx4.te.frozen 0;have q1:w4.cell? ⟨gT,1,none⟩=some (.int .u64 x1):=hx4.te.cell 1;have fq1:w4.frozen? ⟨gT,1,none⟩=false:=hx4.te.frozen 1;have q2:w4.cell? ⟨gT,2,none⟩=some (.int .u64 x2):=hx4.te.cell 2;have fq2:w4.frozen? ⟨gT,2,none⟩=false:=hx4.te.frozen 2;have q3:w4.cell? ⟨gT,3,none⟩=some (.int .u64 x3):=hx4.te.cell 3;have fq3:w4.frozen? ⟨gT,3,none⟩=false:=hx4.te.frozen 3;have q4:w4.cell? ⟨gT,4,none⟩=some (.int .u64 x4):=hx4.te.cell 4;have fq4:w4.frozen? ⟨gT,4,none⟩=false:=hx4.te.frozen 4;have q5:w4.cell? ⟨gT,5,none⟩=some (.slice xA xl xc):=hx4.te.cell 5;have fq5:w4.frozen? ⟨gT,5,none⟩=false:=hx4.te.frozen 5))
    all_goals
     have HX5:=qh (hx4.put rfl 5 0 0 0 0 (some ⟨N,0,none⟩) 2 2);have hglt2:=hx4.lt;have hgl2:=hx4.gl;have hz3:w2.heap.size<=w3.heap.size:=hk3.size;have hgT3:gT<w2.heap.size:=Blk.lt hxd.te;have hzd:w.heap.size<=w2.heap.size:=hxd.ko.size;have hz5:=j80 w4 gT 5 0 0 0 0 (some ⟨N,0,none⟩) 2 2
     have HT5:Hid (Y2.2.e=0->∃ n,RxT ((((((w4.setCell ⟨gT,0,none⟩ (.int .i64 5)).setCell ⟨gT,1,none⟩ (.int .u64 0)).setCell ⟨gT,2,none⟩ (.int .u64 0)).setCell ⟨gT,3,none⟩ (.int .u64 0)).setCell ⟨gT,4,none⟩ (.int .u64 0)).setCell ⟨gT,5,none⟩ (.slice (some ⟨N,0,none⟩) 2 2)) (InT w gT ((((((w4.setCell ⟨gT,0,none⟩ (.int .i64 5)).setCell ⟨gT,1,none⟩ (.int .u64 0)).setCell ⟨gT,2,none⟩ (.int .u64 0)).setCell ⟨gT,3,none⟩ (.int .u64 0)).setCell ⟨gT,4,none⟩ (.int .u64 0)).setCell ⟨gT,5,none⟩ (.slice (some ⟨N,0,none⟩) 2 2))) n (jG1 5 t Y2.1) (six 5 0 0 0 0 (some ⟨N,0,none⟩) 2 2)):=qh λ hy=>by
      obtain⟨n1,hn1⟩:=HTd.out;obtain⟨n2,hn2⟩:=ht3 hy;have a1:=((hn1.off hk3 λ b hb=>⟨hb.2.1,by have:=hb.1;omega⟩).below hb4 λ b hb=>Nat.lt_of_lt_of_le hb.2.1 hz3);have a2:=hn2.below hb4 λ b hb=>hb.2
      have hz4:w3.heap.size<=w4.heap.size:=hb4.size;have b1:RxT w4 (InT w gT w4) n1 t (six x0 x1 x2 x3 x4 xA xl xc):=a1.weak λ b hb=>⟨hb.1,by have h1:b<w2.heap.size:=hb.2.1;omega,hb.2.2⟩
      have b2:RxT w4 (InT w gT w4) n2 Y2.1 (six v0 v1 v2 v3 v4 vA vl vc):=a2.weak λ b hb=>by
       have h1:w2.heap.size<=b:=hb.1;have h2:b<w3.heap.size:=hb.2;exact⟨by omega,by omega,by omega⟩
      have c:=RxT.two (b1.up (Nat.le_max_left n1 n2)) (b2.up (Nat.le_max_right n1 n2)) rfl (show InT w gT w4 N from ⟨by omega,hN2,by omega⟩) hc4 5 (by decide) (by decide);exact⟨_,(c.put6 (λ k=>k.2.2 rfl) 5 0 0 0 0 (some ⟨N,0,none⟩) 2 2).weak λ b hb=>⟨hb.1,by rw [hz5];exact hb.2.1,hb.2.2⟩⟩
     clear hx3 hx4 hr3 hk3 ht3 hb4 hc4 hxd hz5;go_wp2_with fail
     go_roundg m
     case measure=>rw [HG.out];omega
     case rel=>exact⟨m,jG1 5 t Y2.1,Y2.2,5,0,0,0,0,some ⟨N,0,none⟩,2,2,rfl,hY2.1,λ hy=>by have:=hY2.2;omega,HF2,HX5,HT5⟩
  . have HFe:Hid (F=(t,y)):=qh (HFq.out.trans (Km1 m h124));have e124:((pk s y).toList== [124])=false:=(by rw [Xj2];exact beq_eq_false_iff_ne.2 h124);clear h124 hq;go_wp2_with fail;refine CP.out.mono ?_;rintro e w9 ⟨rfl,qq,hqq⟩;have hbq:Below wr.heap.size wr w9:=(by rw [hqq];exact below_drewN (Below.refl _ _) qq);have HX9:=qh (HX.out.step hbq)
    have HT9:Hid (y.e=0->∃ n,RxT w9 (InT w gT w9) n t (six x0 x1 x2 x3 x4 xA xl xc)):=qh λ hy=>by
     obtain⟨n,hn⟩:=HT.out hy;exact⟨n,(hn.below hbq λ b hb=>hb.2.1).weak λ b hb=>⟨hb.1,Nat.lt_of_lt_of_le hb.2.1 hbq.size,hb.2.2⟩⟩
    clear hqq hbq;obtain⟨s0,s1,s2,s3,s4,s5⟩:=Blk.c6 HX9.out.te;obtain⟨r0,r1,r2,r3,r4,r5⟩:=Blk.c6 HX9.out.re;obtain⟨fr0,fr1,fr2,fr3,fr4,fr5⟩:=Blk.f6 HX9.out.re;have HZ:=qh (J42 (cs:= [.int .i64 0,.int .u64 0,.int .u64 0,.int .u64 0,.int .u64 0,.slice none 0 0]) HX9.out.re rfl x0 x1 x2 x3 x4 xA xl xc);have hne:=HX9.out.lt;have HZK:=qh (HX9.out.ko.put6 (Nat.le_refl _) x0 x1 x2 x3 x4 xA xl xc);have HZR:=qh (Tq.far6 HX9.out.rd (by omega:w.heap.size≠g) x0 x1 x2 x3 x4 xA xl xc);have HZS:=qh (j80 w9 w.heap.size x0 x1 x2 x3 x4 xA xl xc)
    have HZT:Hid (y.e=0->∃ n,RxT ((((((w9.setCell ⟨w.heap.size,0,none⟩ (.int .i64 x0)).setCell ⟨w.heap.size,1,none⟩ (.int .u64 x1)).setCell ⟨w.heap.size,2,none⟩ (.int .u64 x2)).setCell ⟨w.heap.size,3,none⟩ (.int .u64 x3)).setCell ⟨w.heap.size,4,none⟩ (.int .u64 x4)).setCell ⟨w.heap.size,5,none⟩ (.slice xA xl xc)) (λ b=>w.heap.size<=b/\b<w9.heap.size) n t (six x0 x1 x2 x3 x4 xA xl xc)):=qh λ hy=>by
     obtain⟨n,hn⟩:=HT9.out hy;exact⟨n,(hn.put6 (λ k=>absurd k.1 (Nat.lt_irrefl _)) x0 x1 x2 x3 x4 xA xl xc).weak λ b hb=>⟨Nat.le_of_lt hb.1,hb.2.1⟩⟩
    clear HX9;go_wp2_with fail;obtain⟨wz,hwz⟩:∃ wz,wz=((((((w9.setCell ⟨w.heap.size,0,none⟩ (.int .i64 x0)).setCell ⟨w.heap.size,1,none⟩ (.int .u64 x1)).setCell ⟨w.heap.size,2,none⟩ (.int .u64 x2)).setCell ⟨w.heap.size,3,none⟩ (.int .u64 x3)).setCell ⟨w.heap.size,4,none⟩ (.int .u64 x4)).setCell ⟨w.heap.size,5,none⟩ (.slice xA xl xc)):=⟨_,rfl⟩;have hz:=HZ.out;have hzk:=HZK.out;have hzr:=HZR.out;have hzs:=HZS.out;have hzt:=HZT.out;rw [<-hwz] at hz hzk hzr hzs hzt⊢;obtain⟨z0,z1,z2,z3,z4,z5⟩:=Blk.c6 hz
    refine bodyPost_ret (v:= .agg #[.int .i64 x0,.int .u64 x1,.int .u64 x2,.int .u64 x3,.int .u64 x4,.slice xA xl xc]) (by simp [results,Tryz.results117,go_sem,z0,z1,z2,z3,z4,z5]) rfl ⟨x0,x1,x2,x3,x4,xA,xl,xc,rfl,by rw [HFe.out];exact hzr,hzk,λ hy=>by
     rw [HFe.out] at hy⊢;obtain⟨n,hn⟩:=hzt hy;exact⟨n,hn.weak λ b hb=>⟨hb.1,by omega⟩⟩⟩
end Go.Proofs.YtngepacmgabmaaaGreatDoor
