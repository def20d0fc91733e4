/- Bytes that a call gathers: append of new; What rules' texts are made of, plainly;  .. -/
import Derived.Laws.BytesArg
import Derived.Laws.AppendOwn
import Derived.Test.YtngepacmgabmaaaGreatDoorGc
import Derived.Test.YtngepacmgabmaaaGreatDoorGd
import Derived.Lib.ItoaLen
import Derived.Lib.AppendIntMem
import Derived.Shelf.Unicode.PredsPay
import Derived.Deep.RegionHeld3
import Derived.Deep.DeepCutAuto
import Derived.Laws.IdiomStrings
import Derived.Lib.Index
import Derived.Lib.IndexLaws
import Derived.Lib.SplitLaws
import Derived.Lib.Join
namespace Go.Proofs.YtngepacmgabmaaaGreatDoor
open Go.RowKit
set_option linter.unusedVariables false
set_option linter.unusedSimpArgs false
theorem infoByte:(Tryz.prog.info? 5).map (λ i=>(i.zero,i.size,i.bytes))=some (some (.int .u8 0),1,1):=by kernel_rfl
def bv (b:UInt8):Value:= .int .u8 (b.toNat:Int)
def OB (w:World) (B:Nat) (v:Value) (l:List UInt8):Prop:=w.ownsRow B 5 1 v l.length (l.map bv)
theorem OB.nil (w:World) (B:Nat):OB w B (.slice none 0 0) []:=World.ownsRow_nil _ _ _ _
theorem OB.drew {w:World} {B:Nat} {v:Value} {l:List UInt8} (h:OB w B v l):OB w.drew B v l:=h
theorem OB.drewN {w:World} {B:Nat} {v:Value} {l:List UInt8} (h:OB w B v l) (n:Nat):OB (w.drewN n) B v l:=h
theorem OB.alloc {w:World} {B:Nat} {v:Value} {l:List UInt8} (h:OB w B v l) (o:Obj):OB (w.alloc o) B v l:=World.ownsRow.alloc h o
theorem OB.kept {w w':World} {B:Nat} {v:Value} {l:List UInt8} (h:OB w B v l) (hb:Below w.heap.size w w'):OB w' B v l:=by
 refine World.ownsRow.kept (row:=none) h ⟨hb.os,hb.tape,hb.output,hb.size,λ k hk _=>hb.block k hk⟩ ?_;cases v.ownBlock<;>simp
theorem below_drewN {B:Nat} {a w:World} (h:Below B a w) (n:Nat):Below B a (w.drewN n):=⟨h.os,h.tape,h.output,h.size,h.block⟩
theorem OB.form {w:World} {B:Nat} {v:Value} {l:List UInt8} (h:OB w B v l):∃ A c,v= .slice A l.length c:=by
 rcases h.2 with⟨rfl,hn⟩|⟨g,cap,cur,rfl,_⟩
 . exact⟨none,0,by rw [hn]⟩
 . exact⟨_,_,rfl⟩
section
variable {w:World} {B:Nat} {v:Value} {l:List UInt8}
theorem KN4 (l:List UInt8):strOfNums (l.map λ b=>(b.toNat:Int))=str l:=by
 simp [strOfNums,str,Function.comp_def]
theorem Q18 (h:OB w B v l):(convert 66 9 v).run Tryz.prog w= .ok (.string (str l)) w:=by
 rcases h.2 with⟨rfl,hn⟩|⟨g,cap,cur,rfl,_,hg,hle,hm,hcs,htk⟩
 . rw [run_convert_bytes_nil (P:=Tryz.prog) w 66 5 Tryz.underlying66 Tryz.underlying5 0 0 9 Tryz.underlying9];have:l= []:=List.eq_nil_of_length_eq_zero hn;subst this;rfl
 . rw [run_convert_bytes_arg (P:=Tryz.prog) w 66 5 Tryz.underlying66 Tryz.underlying5 g 0 l.length cap (l.map λ b=>(b.toNat:Int)) (by simp) (λ i hi=>by
    have hc:=h.cells (g:=g) rfl i (bv l[i]) (by simp [hi]);have hadd:(⟨g,0,none⟩:Addr).add i=⟨g,0+i,none⟩:=(by unfold Addr.add;split<;>simp_all);rw [hadd] at hc;rw [hc];simp [List.getD,hi,bv]) 9 Tryz.underlying9,KN4]
theorem kH0 (h:OB w B v l) (vals:List Value) (ns:List UInt8) (hv:vals=ns.map bv) (hlen:l.length+ns.length<=140737488355328) (hB:B<=w.heap.size) (ty:TypeId):
 ∃ v' w',(Builtin.append_ #[66,66] ty #[v,.slice (some ⟨w.heap.size,0,none⟩) vals.length vals.length]).run Tryz.prog (w.alloc (.cells vals.toArray 5))= .ok v' w'/\
  OB w' B v' (l++ns)/\Below B w w':=by
 obtain⟨i0,hi,hz0,hz1,hz2⟩:=info_parts infoByte;have hvl:vals.length=ns.length:=by rw [hv];simp
 obtain⟨v',w',h0,h1,h2,_⟩:=run_append_own (P:=Tryz.prog) (w.alloc (.cells vals.toArray 5)) B 66 ty 5 i0 (.int .u8 0) 1 1 Tryz.underlying66 hi hz0 hz1 hz2 rfl (by decide) v l.length (l.map bv) (h.alloc _)
  ⟨w.heap.size,0,none⟩ vals.length vals.length vals (by simp) (by
   intro j u hu;have hadd:(⟨w.heap.size,0,none⟩:Addr).add j=⟨w.heap.size,j,none⟩:=(by unfold Addr.add;split<;>simp_all);rw [hadd,(Blk.new w 5 vals.toArray).cell j]
   simpa using hu) (by
   intro u hu;rw [hv] at hu;obtain⟨b,_,rfl⟩:=List.mem_map.1 hu;rfl) (by unfold maxLen;omega) (by omega) (by simp;omega)
 refine⟨v',w',h0,?_,?_⟩
 . unfold OB;rw [List.length_append,List.map_append,<-hv,<-hvl];exact h1
 . have hb:Below B w (w.alloc (.cells vals.toArray 5)):=(Below.refl _ _).alloc hB _;exact hb.grown h2 (by simp;omega) (λ k hk=>(World.ownsRow.lt h k hk).1)
theorem ky4 {o:Oper} {a:Act} {K:Act->World->Prop} {Q:Exit->Act->World->Prop} (s x:Operand)
 (ho:o.op= .call {callee:= .builtin .append,args:=#[s,x],argTypes:=#[66,66]})
 (h:OB w B v l) (hs:a.eval s=v) (vals:List Value) (ns:List UInt8) (hv:vals=ns.map bv)
 (hx:a.eval x= .slice (some ⟨w.heap.size,0,none⟩) vals.length vals.length) (hlen:l.length+ns.length<=140737488355328) (hB:B<=w.heap.size)
 (hK:∀ v' w',OB w' B v' (l++ns)->Below B w w'->K (a.put o.dst v') w'):o.wp Tryz.prog a (w.alloc (.cells vals.toArray 5)) K Q:=by
 obtain⟨v',w',hrun,h2,h3⟩:=kH0 h vals ns hv hlen hB o.type;unfold Oper.wp execOp;simp only [ho,resolve,invoke,builtin,Sem.run_bind,Sem.run_pure,Result.andThen_ok,List.map_toArray,List.map_cons,List.map_nil,hs,hx,hrun];exact hK v' w' h2 h3
theorem QI7 {ops:Array Oper} {rest:List Oper} {o:Oper} {a:Act} {Q:Exit->Act->World->Prop} (hgd:o.guard=none) (s x:Operand)
 (ho:o.op= .call {callee:= .builtin .append,args:=#[s,x],argTypes:=#[66,66]})
 (h:OB w B v l) (hs:a.eval s=v) (vals:List Value) (ns:List UInt8) (hv:vals=ns.map bv)
 (hx:a.eval x= .slice (some ⟨w.heap.size,0,none⟩) vals.length vals.length) (hlen:l.length+ns.length<=140737488355328) (hB:B<=w.heap.size)
 (hK:∀ v' w',OB w' B v' (l++ns)->Below B w w'->wpList Tryz.prog ops Q rest (a.put o.dst v') w'):
 wpList Tryz.prog ops Q (o::rest) a (w.alloc (.cells vals.toArray 5)):=
 wpList_plain hgd λ _ hK'=>ky4 s x ho h hs vals ns hv hx hlen hB λ v' w' h2 h3=>hK' _ _ (hK v' w' h2 h3)
theorem zp4 {ops:Array Oper} {o:Oper} {a:Act} {K:Act->World->Prop} {Q:Exit->Act->World->Prop} {E:Prop} (hgd:o.guard=none) (s x:Operand)
 (ho:o.op= .call {callee:= .builtin .append,args:=#[s,x],argTypes:=#[66,66]})
 (h:OB w B v l) (hs:a.eval s=v) (vals:List Value) (ns:List UInt8) (hv:vals=ns.map bv)
 (hx:a.eval x= .slice (some ⟨w.heap.size,0,none⟩) vals.length vals.length) (hlen:l.length+ns.length<=140737488355328) (hB:B<=w.heap.size)
 (hK:∀ v' w',OB w' B v' (l++ns)->Below B w w'->K (a.put o.dst v') w'):
 if Region.wanted o (yielded ops a.tmps)=true then Oper.wp Tryz.prog o a (w.alloc (.cells vals.toArray 5)) K Q else E:=by
 have hw:Region.wanted o (yielded ops a.tmps)=true:=by simp [Region.wanted,hgd]
 rw [if_pos hw];exact ky4 s x ho h hs vals ns hv hx hlen hB hK
end
def itS (n:Int):ByteArray:=⟨(Lib.itoa n).toArray⟩
def TwI (w:World):Prop:=Lib.TabIs Tryz.prog w "internal/strconv.uint64pow10" .u64 Lib.pow10Tab
theorem TwI.below {w w':World} (h:TwI w) (hb:Below w.heap.size w w'):TwI w':=TabIs_below (g:=5) (by kernel_rfl) h hb
theorem kR4 (n:Int) (h: -9223372036854775808<=n/\n<=9223372036854775807) (w:World) (hT:TwI w):
 Calls Tryz.prog 27 #[.int .i64 n] w λ e w'=>e= .returned (.string (itS n))/\Below w.heap.size w w':=
 (Tryz.strconv_Itoa n h.1 h.2 w hT).mono λ e w' ⟨h1,k,os,h2⟩=>⟨h1,by rw [h2];exact Lib.below_grow _ _ (Nat.le_refl _) k os⟩
theorem y23 (n:Int) (h: -9223372036854775808<=n/\n<=9223372036854775807):(itS n).size<=21:=by
 have:=Lib.itoa_length_le n h.1 h.2;show (Lib.itoa n).toArray.size<=21;rw [List.size_toArray];exact this
def mWds:List ByteArray:= [⟨#[]⟩,⟨#[35]⟩,⟨#[33]⟩]
def mdB (m:Int):ByteArray:=mWds.getD m.toNat ByteArray.empty
def vwB (k:Int):ByteArray:=Jf7.getD k.toNat ByteArray.empty
def awB (k:Int):ByteArray:=XF4.getD k.toNat ByteArray.empty
def owB (k:Int):ByteArray:=Zd4.getD k.toNat ByteArray.empty
def yb6:ByteArray:=⟨#[58]⟩
def vTx (v:Vr):ByteArray:=if v.n.size=0 then mdB v.m++vwB v.k else mdB v.m++vwB v.k++(yb6++v.n)
def aTx (a:Int×Int):ByteArray:=if 0<a.2 then awB a.1++yb6++itS a.2 else awB a.1
theorem y91 {k:Int} (h:0<=k/\k<13):(vwB k).size<=10:=by
 obtain⟨n,rfl⟩:=Int.eq_ofNat_of_zero_le h.1;have:∀ n:Fin 13,(Jf7.getD n.val ByteArray.empty).size<=10:=by decide+kernel
 exact this ⟨n,by omega⟩
theorem y22 {k:Int} (h:0<=k/\k<6):(awB k).size<=10:=by
 obtain⟨n,rfl⟩:=Int.eq_ofNat_of_zero_le h.1;have:∀ n:Fin 6,(XF4.getD n.val ByteArray.empty).size<=10:=by decide+kernel
 exact this ⟨n,by omega⟩
theorem xL6 {k:Int} (h:0<=k/\k<13):(owB k).size<=10:=by
 obtain⟨n,rfl⟩:=Int.eq_ofNat_of_zero_le h.1;have:∀ n:Fin 13,(Zd4.getD n.val ByteArray.empty).size<=10:=by decide+kernel
 exact this ⟨n,by omega⟩
theorem jY3 {k:Int} (h:0<=k/\k<3):(mdB k).size<=1:=by
 obtain⟨n,rfl⟩:=Int.eq_ofNat_of_zero_le h.1;have:∀ n:Fin 3,(mWds.getD n.val ByteArray.empty).size<=1:=by decide+kernel
 exact this ⟨n,by omega⟩
section
variable (w:World)
set_option maxRecDepth 100000 in
set_option maxHeartbeats 4000000 in
theorem qd5 (v:Vr) (hk:0<=v.k/\v.k<13) (hm:0<=v.m/\v.m<3) (hn:v.n.size<=1048576):
 Calls Tryz.prog 64 #[.agg #[.int .i64 v.k,.int .i64 v.m,.string v.n]] w λ e w'=>e= .returned (.string (vTx v))/\Below w.heap.size w w':=by
 obtain⟨k,m,n⟩:=v;dsimp only at hk hm hn⊢;obtain⟨k,rfl⟩:=Int.eq_ofNat_of_zero_le hk.1;obtain⟨m,rfl⟩:=Int.eq_ofNat_of_zero_le hm.1
 have ix:∀ w,(Instr.index 144 (.agg #[.string ⟨#[]⟩,.string ⟨#[35]⟩,.string ⟨#[33]⟩]) (.int .i64 (m:Int))).run Tryz.prog w= .ok (.string (mdB (m:Int))) w:=λ w=>by
  obtain rfl|rfl|rfl:m=0\/m=1\/m=2:=by omega
  all_goals kernel_rfl
 have CW:=qh λ w'=>(zn7 k (by omega) w').mono λ _ _ h=>And.intro h.1 h.2.symm
 have hT:vTx ⟨(k:Int),(m:Int),n⟩=if n.size=0 then mdB m++vwB k else mdB m++vwB k++(yb6++n):=rfl
 have h1:=y91 hk;have h2:=jY3 hm;obtain⟨S,hS⟩:∃ S,S=vwB (k:Int):=⟨_,rfl⟩;obtain⟨M,hM⟩:∃ M,M=mdB (m:Int):=⟨_,rfl⟩;rw [<-hS] at hT h1;rw [<-hM] at hT ix h2;have CW2:Hid (∀ w',Calls Tryz.prog 80 #[.int .i64 (k:Int)] w' λ e w''=>e= .returned (.string S)/\w''=w'):=qh λ w'=>by rw [hS];exact CW.out w'
 have HT:=qh hT;have z1:¬9223372036854775807<M.size+S.size:=by omega
 have z2:¬9223372036854775807<1+n.size:=by omega
 have z3:¬9223372036854775807<M.size+S.size+(1+n.size):=by omega
 have z4:(ByteArray.mk #[58]).size=1:=rfl;obtain⟨W,hW⟩:∃ W,w.alloc (.cells #[.int .i64 (k:Int),.int .i64 (m:Int),.string n] 51)=W:=⟨_,rfl⟩;have hb:Below w.heap.size w W:=by rw [<-hW];exact(Below.refl _ _).alloc (Nat.le_refl _) _
 have hB:Blk W w.heap.size 51 #[.int .i64 (k:Int),.int .i64 (m:Int),.string n]:=by rw [<-hW];exact Blk.new _ _ _
 obtain⟨c0,c1,c2⟩:=Blk.c3 hB;have HB:=qh hb;rw [show vTx ⟨(k:Int),(m:Int),n⟩=vTx ⟨(k:Int),(m:Int),n⟩ from rfl];obtain⟨R,hR⟩:∃ R,R=vTx ⟨(k:Int),(m:Int),n⟩:=⟨_,rfl⟩;rw [<-hR] at HT⊢;clear hS hM hT hk hm hR CW hb hB;by_cases hn0:n.size=0
 focus
  have q:n.toList.isEmpty=true:=by rw [Lib.toList_data,List.isEmpty_iff];exact List.length_eq_zero_iff.1 (by rw [qX6];exact hn0)
  have HR:Hid (R=M++S):=qh (HT.out.trans (if_pos hn0))
 rotate_left
 focus
  have q:n.toList.isEmpty=false:=by rw [Lib.toList_data,List.isEmpty_eq_false_iff];intro e;have h1:=qX6 n;rw [e,List.length_nil] at h1;omega
  have HR:Hid (R=M++S++(yb6++n)):=qh (HT.out.trans (if_neg hn0))
 all_goals
  clear hn0 HT;go_enter Tryz.func64,Tryz.ntmps64;go_wp2_with fail;go_quiet ((go_at_call 80;exact K97 ((CW2.out _).mono λ _ _ h=>⟨h.1,h.2.symm⟩)))
  go_wp2_with fail;go_ret;exact⟨by rw [HR.out];rfl,below_drewN HB.out _⟩
set_option maxRecDepth 100000 in
set_option maxHeartbeats 4000000 in
theorem yr1 (a:Int×Int) (hk:0<=a.1/\a.1<6) (hn:a.2<=9223372036854775807) (hT:TwI w):
 Calls Tryz.prog 67 #[.agg #[.int .i64 a.1,.int .i64 a.2]] w λ e w'=>e= .returned (.string (aTx a))/\Below w.heap.size w w':=by
 obtain⟨k,n⟩:=a;dsimp only at hk hn⊢;obtain⟨k,rfl⟩:=Int.eq_ofNat_of_zero_le hk.1;have CW:=qh λ w'=>(Xk5 k (by omega) w').mono λ _ _ h=>And.intro h.1 h.2.symm
 have h1:=y22 hk;have hR0:aTx ((k:Int),n)=if 0<n then awB k++yb6++itS n else awB k:=rfl
 obtain⟨S,hS⟩:∃ S,S=awB (k:Int):=⟨_,rfl⟩;rw [<-hS] at hR0 h1;have CW2:Hid (∀ w',Calls Tryz.prog 81 #[.int .i64 (k:Int)] w' λ e w''=>e= .returned (.string S)/\w''=w'):=qh λ w'=>by rw [hS];exact CW.out w'
 obtain⟨W,hW⟩:∃ W,w.alloc (.cells #[.int .i64 (k:Int),.int .i64 n] 55)=W:=⟨_,rfl⟩;have hb:Below w.heap.size w W:=by rw [<-hW];exact(Below.refl _ _).alloc (Nat.le_refl _) _
 have hB:Blk W w.heap.size 55 #[.int .i64 (k:Int),.int .i64 n]:=by rw [<-hW];exact Blk.new _ _ _
 obtain⟨c0,c1⟩:=Blk.c2 hB;have HB:=qh hb;obtain⟨R,hR⟩:∃ R,R=aTx ((k:Int),n):=⟨_,rfl⟩;rw [<-hR] at hR0⊢;have HR0:=qh hR0;have hlt:=Blk.lt hB;have HT:=qh hT;have z4:(ByteArray.mk #[58]).size=1:=rfl;by_cases hn0:0<n
 . have k1:decide ((0:Int)<n)=true:=decide_eq_true hn0;have hi:=y23 n (by omega);have CI:=qh λ w' (h:Below W.heap.size W w')=>(kR4 n (by omega) w' (HT.out.below (HB.out.trans (h.mono HB.out.size)))).mono λ _ w'' q=>And.intro q.1 (h.trans (q.2.mono h.size))
   have HR:Hid (R=S++yb6++itS n):=qh (HR0.out.trans (if_pos hn0));obtain⟨I,hI⟩:∃ I,I=itS n:=⟨_,rfl⟩;rw [<-hI] at CI HR hi;have HS:Hid (∀ w',Below W.heap.size W w'->w'.cell? ⟨w.heap.size,0,none⟩=some (.int .i64 (k:Int))/\w'.cell? ⟨w.heap.size,1,none⟩=some (.int .i64 n)):=qh λ w' h=>⟨(h.cell (p:=⟨w.heap.size,0,none⟩) hlt).trans c0,(h.cell (p:=⟨w.heap.size,1,none⟩) hlt).trans c1⟩
   have b0:Below W.heap.size W W:=Below.refl _ _;have b1:Below W.heap.size W W.drew:=below_drewN b0 1;have z1:¬9223372036854775807<S.size+1:=(by omega);have z2:¬9223372036854775807<S.size+1+I.size:=(by omega);clear hS hI hR hR0 HR0 CW hb hB hn0 hk hn hT h1 hi;go_enter Tryz.func67,Tryz.ntmps67;go_wp2_with fail;clear c0 c1
   go_region_held3 (λ w'=>w'.cell? ⟨w.heap.size,0,none⟩=some (.int .i64 (k:Int))/\w'.cell? ⟨w.heap.size,1,none⟩=some (.int .i64 n)) (exact HS.out _ (by assumption))
    (first
     |(go_at_call 81;(with_reducible refine(CW2.out _).mono ?_);rintro e w' ⟨rfl,rfl⟩)
     |(go_at_call 27;(with_reducible refine(CI.out _ (by assumption)).mono ?_);rintro e w' ⟨rfl,hb'⟩)
     |fail)
   all_goals
    go_wp2_with fail;go_ret;exact⟨by rw [HR.out];rfl,HB.out.trans (Below.mono (by assumption) HB.out.size)⟩
 . have k1:decide ((0:Int)<n)=false:=decide_eq_false hn0;have HR:Hid (R=S):=qh (HR0.out.trans (if_neg hn0));clear hS hR hR0 HR0 CW hb hB hn0 hk hn hT h1;go_enter Tryz.func67,Tryz.ntmps67;go_wp2_with fail;refine(CW2.out _).mono ?_;rintro e w' ⟨rfl,rfl⟩;go_wp2_with fail;go_ret;exact⟨by rw [HR.out];rfl,HB.out⟩
end
structure Grew (w w':World) (v v':Value):Prop where
 grown:w.grownBy w' v.ownBlock
 home:v'.ownBlock=v.ownBlock\/∃ g,v'.ownBlock=some g/\w.heap.size<=g
theorem Grew.refl (w:World) (v:Value):Grew w w v v:=⟨World.grownBy.refl _ _,.inl rfl⟩
theorem Grew.trans {w w1 w2:World} {v v1 v2:Value} (h:Grew w w1 v v1) (k:Grew w1 w2 v1 v2):Grew w w2 v v2:=by
 have e:=h.grown;have f:=k.grown;refine⟨⟨f.os.trans e.os,f.tape.trans e.tape,f.output.trans e.output,Nat.le_trans e.size f.size,λ g hg hne=> ?_⟩,?_⟩
 . have h2:some g≠v1.ownBlock:=by
    rcases h.home with h|⟨x,h,hx⟩
    . rw [h];exact hne
    . rw [h];intro e;injection e with e;omega
   exact(f.block g (Nat.lt_of_lt_of_le hg e.size) h2).trans (e.block g hg hne)
 . rcases k.home with k|⟨x,k,hx⟩
   . rw [k];exact h.home
   . exact .inr ⟨x,k,Nat.le_trans e.size hx⟩
theorem Grew.blk {w w':World} {v v':Value} (h:Grew w w' v v') {g:Nat} {t:TypeId} {cs:Array Value} (hb:Blk w g t cs) (hne:v.ownBlock≠some g):Blk w' g t cs:=hb.grown h.grown λ e=>hne e.symm
theorem Grew.off {w w':World} {v v':Value} (h:Grew w w' v v') {g:Nat} (hg:g<w.heap.size) (hne:v.ownBlock≠some g):v'.ownBlock≠some g:=by
 rcases h.home with e|⟨x,e,hx⟩
 . rw [e];exact hne
 . rw [e];intro k;injection k with k;omega
theorem Grew.below {w w':World} {v v':Value} (h:Grew w w' v v') {B:Nat} (hB:B<=w.heap.size) (hv:∀ g,v.ownBlock=some g->B<=g):Below B w w':=(Below.refl _ _).grown h.grown hB hv
theorem Grew.drew {w w':World} {v v':Value} (h:Grew w w' v v'):Grew w w'.drew v v':=⟨⟨h.grown.os,h.grown.tape,h.grown.output,h.grown.size,h.grown.block⟩,h.home⟩
theorem Grew.drewN {w w':World} {v v':Value} (h:Grew w w' v v') (n:Nat):Grew w (w'.drewN n) v v':=⟨⟨h.grown.os,h.grown.tape,h.grown.output,h.grown.size,h.grown.block⟩,h.home⟩
theorem Grew.of_below {w w':World} (hb:Below w.heap.size w w') (v:Value):Grew w w' v v:=⟨⟨hb.os,hb.tape,hb.output,hb.size,λ k hk _=>hb.block k hk⟩,.inl rfl⟩
theorem Grew.reads {w w':World} {v v':Value} (h:Grew w w' v v') {B size n:Nat} {A:Option Addr} {xs:List Value} (hr:Reads w B size A n xs) (hB:B<=w.heap.size) (hv:∀ g,v.ownBlock=some g->B<=g):Reads w' B size A n xs:=
 hr.grown h.grown hB λ g e=>hv g e
theorem Kw5 {w:World} {B:Nat} {E:TypeId} {size n:Nat} {v:Value} {xs:List Value} (h:w.ownsRow B E size v n xs):∀ g,v.ownBlock=some g->B<=g:=λ g hg=>(World.ownsRow.lt h g hg).1
section
variable {P:Program} {w:World} {B:Nat} {t E:TypeId} {i:TypeInfo} {z:Value} {size bytes:Nat}
theorem JO2 (ht:P.underlying t=some (.slice E)) (hi:P.info? E=some i) (hz:i.zero=some z) (hsize:i.size=size) (hby:i.bytes=bytes) (hzs:z.cells.size=size) (hsz:0<size)
 {v:Value} {n:Nat} {xs:List Value} (h:w.ownsRow B E size v n xs) (vals:List Value) (m:Nat) (hm:vals.length=m*size) (h1:∀ u∈vals,u.oneCell'=true)
 (h63:n+m<=maxLen) (hbytes:(n+m)*bytes<=140737488355328) (hB:B<=w.heap.size) (ty:TypeId) (c:Nat):
 ∃ v' w',(Builtin.append_ #[t,t] ty #[v,.slice (some ⟨w.heap.size,0,none⟩) m c]).run P (w.alloc (.cells vals.toArray E))= .ok v' w'/\
  w'.ownsRow B E size v' (n+m) (xs++vals)/\Grew w w' v v':=by
 obtain⟨v',w',h0,h2,h3,_,h5⟩:=run_append_own_at (P:=P) (w.alloc (.cells vals.toArray E)) B t ty E i z size bytes ht hi hz hsize hby hzs hsz v n xs (World.ownsRow.alloc h _)
  ⟨w.heap.size,0,none⟩ m c vals hm (by
   intro j u hu;have hadd:(⟨w.heap.size,0,none⟩:Addr).add j=⟨w.heap.size,j,none⟩:=(by unfold Addr.add;split<;>simp_all);rw [hadd,(Blk.new w E vals.toArray).cell j]
   simpa using hu) h1 h63 hbytes (by simp;omega)
 refine⟨v',w',h0,h2,⟨⟨h3.os,h3.tape,h3.output,Nat.le_trans (by simp) h3.size,λ k hk hne=> ?_⟩,?_⟩⟩
 . exact(h3.block k (by simp;omega) hne).trans (Below.heap_alloc w _ k hk)
 . rcases h5 with h5|h5
   . exact .inl h5
   . exact .inr ⟨_,h5,by simp⟩
theorem qB3 {o:Oper} {a:Act} {K:Act->World->Prop} {Q:Exit->Act->World->Prop} (s x:Operand)
 (ho:o.op= .call {callee:= .builtin .append,args:=#[s,x],argTypes:=#[t,t]})
 (ht:P.underlying t=some (.slice E)) (hi:P.info? E=some i) (hz:i.zero=some z) (hsize:i.size=size) (hby:i.bytes=bytes) (hzs:z.cells.size=size) (hsz:0<size)
 {v:Value} {n:Nat} {xs:List Value} (h:w.ownsRow B E size v n xs) (hs:a.eval s=v) (vals:List Value) (m c:Nat)
 (hx:a.eval x= .slice (some ⟨w.heap.size,0,none⟩) m c) (hm:vals.length=m*size) (h1:∀ u∈vals,u.oneCell'=true)
 (h63:n+m<=maxLen) (hbytes:(n+m)*bytes<=140737488355328) (hB:B<=w.heap.size)
 (hK:∀ v' w',w'.ownsRow B E size v' (n+m) (xs++vals)->Grew w w' v v'->K (a.put o.dst v') w'):o.wp P a (w.alloc (.cells vals.toArray E)) K Q:=by
 obtain⟨v',w',hrun,h2,h3⟩:=JO2 ht hi hz hsize hby hzs hsz h vals m hm h1 h63 hbytes hB o.type c;unfold Oper.wp execOp;simp only [ho,resolve,invoke,builtin,Sem.run_bind,Sem.run_pure,Result.andThen_ok,List.map_toArray,List.map_cons,List.map_nil,hs,hx,hrun];exact hK v' w' h2 h3
theorem zM8 {ops:Array Oper} {rest:List Oper} {o:Oper} {a:Act} {Q:Exit->Act->World->Prop} (hgd:o.guard=none) (s x:Operand)
 (ho:o.op= .call {callee:= .builtin .append,args:=#[s,x],argTypes:=#[t,t]})
 (ht:P.underlying t=some (.slice E)) (hi:P.info? E=some i) (hz:i.zero=some z) (hsize:i.size=size) (hby:i.bytes=bytes) (hzs:z.cells.size=size) (hsz:0<size)
 {v:Value} {n:Nat} {xs:List Value} (h:w.ownsRow B E size v n xs) (hs:a.eval s=v) (vals:List Value) (m c:Nat)
 (hx:a.eval x= .slice (some ⟨w.heap.size,0,none⟩) m c) (hm:vals.length=m*size) (h1:∀ u∈vals,u.oneCell'=true)
 (h63:n+m<=maxLen) (hbytes:(n+m)*bytes<=140737488355328) (hB:B<=w.heap.size)
 (hK:∀ v' w',w'.ownsRow B E size v' (n+m) (xs++vals)->Grew w w' v v'->wpList P ops Q rest (a.put o.dst v') w'):
 wpList P ops Q (o::rest) a (w.alloc (.cells vals.toArray E)):=
 wpList_plain hgd λ _ hK'=>qB3 s x ho ht hi hz hsize hby hzs hsz h hs vals m c hx hm h1 h63 hbytes hB λ v' w' h2 h3=>hK' _ _ (hK v' w' h2 h3)
theorem xP0 {ops:Array Oper} {o:Oper} {a:Act} {K:Act->World->Prop} {Q:Exit->Act->World->Prop} {F:Prop} (hgd:o.guard=none) (s x:Operand)
 (ho:o.op= .call {callee:= .builtin .append,args:=#[s,x],argTypes:=#[t,t]})
 (ht:P.underlying t=some (.slice E)) (hi:P.info? E=some i) (hz:i.zero=some z) (hsize:i.size=size) (hby:i.bytes=bytes) (hzs:z.cells.size=size) (hsz:0<size)
 {v:Value} {n:Nat} {xs:List Value} (h:w.ownsRow B E size v n xs) (hs:a.eval s=v) (vals:List Value) (m c:Nat)
 (hx:a.eval x= .slice (some ⟨w.heap.size,0,none⟩) m c) (hm:vals.length=m*size) (h1:∀ u∈vals,u.oneCell'=true)
 (h63:n+m<=maxLen) (hbytes:(n+m)*bytes<=140737488355328) (hB:B<=w.heap.size)
 (hK:∀ v' w',w'.ownsRow B E size v' (n+m) (xs++vals)->Grew w w' v v'->K (a.put o.dst v') w'):
 if Region.wanted o (yielded ops a.tmps)=true then Oper.wp P o a (w.alloc (.cells vals.toArray E)) K Q else F:=by
 have hw:Region.wanted o (yielded ops a.tmps)=true:=by simp [Region.wanted,hgd]
 rw [if_pos hw];exact qB3 s x ho ht hi hz hsize hby hzs hsz h hs vals m c hx hm h1 h63 hbytes hB hK
end
theorem KY7:(Tryz.prog.info? 9).map (λ i=>(i.zero,i.size,i.bytes))=some (some (.string ByteArray.empty),1,16):=by kernel_rfl
def OS (w:World) (B:Nat) (v:Value) (l:List ByteArray):Prop:=w.ownsRow B 9 1 v l.length (l.map Value.string)
theorem OS.nil (w:World) (B:Nat):OS w B (.slice none 0 0) []:=World.ownsRow_nil _ _ _ _
section
variable {w w':World} {B:Nat} {v v':Value} {l:List ByteArray}
theorem OS.drew (h:OS w B v l):OS w.drew B v l:=h
theorem OS.drewN (h:OS w B v l) (n:Nat):OS (w.drewN n) B v l:=h
theorem OS.alloc (h:OS w B v l) (o:Obj):OS (w.alloc o) B v l:=World.ownsRow.alloc h o
theorem OS.mono {B':Nat} (h:OS w B v l) (hB:B'<=B):OS w B' v l:=by
 refine⟨h.1,?_⟩;rcases h.2 with h2|⟨g,cap,cur,e1,e2,e3⟩
 . exact .inl h2
 . exact .inr ⟨g,cap,cur,e1,Nat.le_trans hB e2,e3⟩
theorem OS.kept (h:OS w B v l) (hb:Below w.heap.size w w'):OS w' B v l:=by
 refine World.ownsRow.kept (row:=none) h ⟨hb.os,hb.tape,hb.output,hb.size,λ k hk _=>hb.block k hk⟩ ?_;cases v.ownBlock<;>simp
theorem OS.form (h:OS w B v l):∃ A c,v= .slice A l.length c:=by
 rcases h.2 with⟨rfl,hn⟩|⟨g,cap,cur,rfl,_⟩
 . exact⟨none,0,by rw [hn]⟩
 . exact⟨_,_,rfl⟩
theorem OS.len_max (h:OS w B v l):l.length<=9223372036854775807:=by
 rcases h.2 with⟨rfl,hn⟩|⟨g,cap,cur,rfl,_,_,h1,h2,_⟩
 . omega
 . unfold maxLen at h2;omega
theorem OS.at_ {A:Option Addr} {c:Nat} (h:OS w B (.slice A l.length c) l) (hn:0<l.length):∃ g,A=some ⟨g,0,none⟩/\B<=g/\g<w.heap.size/\l.length<=c/\∀ k (hk:k<l.length),w.cell? ⟨g,k,none⟩=some (.string l[k]):=by
 rcases h.2 with⟨_,h2⟩|⟨g,c',cur,e1,hB,hh,hnc,_⟩
 . omega
 . injection e1 with e1 _ e3;subst e1 e3;refine⟨g,rfl,hB,Blk.lt (t:=9) (cs:=cur) hh,hnc,λ k hk=> ?_⟩;rw [World.ownsRow.cellAt h k (by omega),List.getElem?_map,List.getElem?_eq_getElem hk];rfl
theorem OS.cut {A:Option Addr} {c n:Nat} (h:OS w B (.slice A l.length c) l) (hn:n<=l.length) (h0:0<l.length):OS w B (.slice A n c) (l.take n):=by
 rcases h.2 with⟨_,h2⟩|⟨g,c',cur,e1,hB,hh,hnc,hm,hcs,ht⟩
 . omega
 . injection e1 with e1 _ e3;subst e1 e3;have hl:(l.take n).length=n:=(by rw [List.length_take];omega);unfold OS;rw [hl];refine⟨by simp;omega,.inr ⟨g,c,cur,rfl,hB,hh,by omega,hm,hcs,?_⟩⟩;rw [List.map_take,<-ht,List.take_take,Nat.mul_one,Nat.mul_one,Nat.min_eq_left hn]
theorem OS.reads {A:Option Addr} {c:Nat} (h:OS w B (.slice A l.length c) l):Reads w w.heap.size 1 A l.length (l.map Value.string):=Reads.of_own h
theorem jN8 {ops:Array Oper} {rest:List Oper} {o:Oper} {a:Act} {Q:Exit->Act->World->Prop} (hgd:o.guard=none) (s x:Operand)
 (ho:o.op= .call {callee:= .builtin .append,args:=#[s,x],argTypes:=#[37,37]})
 (h:OS w B v l) (hs:a.eval s=v) (p:ByteArray)
 (hx:a.eval x= .slice (some ⟨w.heap.size,0,none⟩) 1 1) (hlen:l.length<=1000000000000) (hB:B<=w.heap.size)
 (hK:∀ v' w',OS w' B v' (l++ [p])->Grew w w' v v'->Below B w w'->wpList Tryz.prog ops Q rest (a.put o.dst v') w'):
 wpList Tryz.prog ops Q (o::rest) a (w.alloc (.cells #[.string p] 9)):=by
 obtain⟨i0,hi0,hz0,hz1,hz2⟩:=info_parts KY7
 refine zM8 (P:=Tryz.prog) (Q:=Q) (rest:=rest) (ops:=ops) hgd s x ho Tryz.underlying37 hi0 hz0 hz1 hz2 rfl (by decide) h hs [.string p] 1 1 hx rfl (by
  intro u hu;rw [List.mem_singleton] at hu;rw [hu];rfl) (by unfold maxLen;omega) (by omega) hB λ v' w' h2 h3=>hK v' w' ?_ h3 (h3.below hB (Kw5 h))
 unfold OS;rw [List.length_append,List.map_append];exact h2
end
abbrev dl (l:List ByteArray):List (List UInt8):=l.map (·.data.toList)
theorem Q76 (n:Nat) (h:n<=255):(UInt8.ofNat n).toNat=n:=by simp [UInt8.toNat_ofNat'];omega
theorem kd3 {b c:UInt8} (h:¬b=c):((b.toNat:Int)==(c.toNat:Int))=false:=by
 rw [beq_eq_false_iff_ne];intro e;apply h;apply UInt8.toNat_inj.1;omega
theorem zf5 {b c:UInt8} (h:b=c):((b.toNat:Int)==(c.toNat:Int))=true:=by rw [h];exact beq_self_eq_true _


def atB (l:List UInt8) (i:Int) (t:List UInt8):Bool:=decide (0<=i)&&decide (i<=l.length)&&Lib.occAt l t i.toNat
theorem y99 (s t:ByteArray) (k:Nat):Lib.occAt s.data.toList t.data.toList k=true<->(s.extract k (k+t.size)).data.toList=t.data.toList:=by
 unfold Lib.occAt;rw [List.isPrefixOf_iff_prefix,Yz8,List.prefix_iff_eq_take,List.drop_take,show k+t.size-k=t.size from by omega,qX6];exact eq_comm
theorem yY4 {s t:ByteArray} {k:Nat} (h:s.size<k+t.size) (hk:k<=s.size):Lib.occAt s.data.toList t.data.toList k=false:=by
 rw [Bool.eq_false_iff];intro ho;unfold Lib.occAt at ho;have:=(List.isPrefixOf_iff_prefix.1 ho).length_le;rw [qX6,List.length_drop,qX6] at this;omega
set_option maxHeartbeats 400000 in
theorem yb5 (s t:ByteArray) (i:Int) (w:World) (hs:s.size<=140737488355328) (ht:t.size<=140737488355328) (h0: -9223372036854775808<=i) (h1:i<=9223372036854775807):
 Calls Tryz.prog 51 #[.string s,.int .i64 i,.string t] w λ e w'=>e= .returned (.bool (atB s.data.toList i t.data.toList))/\w=w':=by
 by_cases c0:0<=i
 . by_cases c1:i<=s.size
   . obtain⟨k,rfl⟩:=Int.eq_ofNat_of_zero_le c0
     have hat:atB s.data.toList (k:Int) t.data.toList=Lib.occAt s.data.toList t.data.toList k:=by
      unfold atB;rw [qX6];simp [c1]
     rw [hat];clear hat;by_cases c2:(t.size:Int)<=(s.size:Int)-k
     . go_enter Tryz.func51,Tryz.ntmps51
       go_wp2
       go_ret;exact⟨Kh9 (by rw [Bool.eq_iff_iff,y99,beq_iff_eq,Lib.toList_data,Lib.toList_data]),rfl⟩
     . rw [yY4 (by omega) (by omega)];go_enter Tryz.func51,Tryz.ntmps51
       go_wp2
       go_ret;exact⟨rfl,rfl⟩
   . have hat:atB s.data.toList i t.data.toList=false:=(by unfold atB;rw [qX6];simp [c1]);rw [hat];clear hat;go_enter Tryz.func51,Tryz.ntmps51
     go_wp2
     go_ret;exact⟨rfl,rfl⟩
 . have hat:atB s.data.toList i t.data.toList=false:=(by unfold atB;simp [c0]);rw [hat];clear hat;go_enter Tryz.func51,Tryz.ntmps51
   go_wp2
   go_ret;exact⟨rfl,rfl⟩
def xi9 (l t:List UInt8) (f:Nat):Int:=if l.length<f then-1 else if 0<=Lib.index (l.drop f) t then f+Lib.index (l.drop f) t else-1
theorem Kp2 (l t:List UInt8) (f j:Nat):Lib.occAt (l.drop f) t j=Lib.occAt l t (f+j):=by unfold Lib.occAt;rw [List.drop_drop]
theorem x48 {l t:List UInt8} {f i:Nat} (hf:f<=i) (hi:i<=l.length) (h:Lib.occAt l t i=true) (hn:∀ j,f<=j->j<i->Lib.occAt l t j=false):xi9 l t f=i:=by
 have h1:Lib.index (l.drop f) t=((i-f:Nat):Int):=by
  refine Lib.index_first (by rw [List.length_drop];omega) ?_ ?_
  . rw [Kp2,show f+(i-f)=i from by omega];exact h
  . intro j hj;rw [Kp2];exact hn _ (by omega) (by omega)
 unfold xi9;rw [if_neg (by omega),h1,if_pos (by omega)];omega
theorem Zr6 {l t:List UInt8} {f:Nat} (hn:∀ j,f<=j->j<=l.length->Lib.occAt l t j=false):xi9 l t f= -1:=by
 unfold xi9;split
 . rfl
 . have h1:Lib.index (l.drop f) t= -1:=by
    refine Lib.index_none ?_;intro j hj;rw [List.length_drop] at hj;rw [Kp2];exact hn _ (by omega) (by omega)
   rw [h1];rfl
set_option maxHeartbeats 400000 in
theorem ju8 (s t:ByteArray) (i:Int) (w:World) (hs:s.size<=140737488355328) (ht:t.size<=140737488355328) (h0: -9223372036854775808<=i) (h1:i<=9223372036854775807):
 Calls Tryz.prog 85 #[.string s,.string t,.int .i64 i] w λ e w'=>e= .returned (.int .i64 (xi9 s.data.toList t.data.toList i.toNat))/\w=w':=by
 have key:∀ (f:Nat) (x:Int),(x=f/\x<=9223372036854775807)\/(x<0/\f=0/\ -9223372036854775808<=x)->Calls Tryz.prog 85 #[.string s,.string t,.int .i64 x] w λ e w'=>e= .returned (.int .i64 (xi9 s.data.toList t.data.toList f))/\w=w':=by
  intro f x hx;have HX:=qh hx;have hx0:x<=9223372036854775807:=by omega
  have hx1: -9223372036854775808<=x:=by omega
  by_cases hneg:x<0
  all_goals
   have hf:(f:Int)<=9223372036854775807:=(by omega);clear hx;go_enter Tryz.func85,Tryz.ntmps85;go_wp2_with fail;go_loop [7] (λ j=>∃ k:Nat,f<=k/\(k<=s.size+1\/k=f)/\j= .int .i64 k/\Hid (∀ j,f<=j->j<k->Lib.occAt s.data.toList t.data.toList j=false)) (λ j=>s.size+1-(intOf j).toNat)
   case atStart=>
    refine⟨f,by omega,.inr rfl,?_,λ j h1 h2=>absurd h2 (by omega)⟩;have:=HX.out;first|(congr 1;omega)|(rw [show f=0 by omega];rfl)
   case round=>
    obtain⟨k,hk,hk2,rfl,HN⟩:=hrel;by_cases hle:k<=s.size
    . have hat:atB s.data.toList (k:Int) t.data.toList=Lib.occAt s.data.toList t.data.toList k:=by
       unfold atB;rw [qX6];simp [show (k:Int)<=s.size by omega]
      have HA:=qh hat;clear hat;cases ho:Lib.occAt s.data.toList t.data.toList k with
      |true=>
       have HF:=qh (x48 hk (by rw [qX6];exact hle) ho HN.out);have HO:=qh ho;clear ho;go_wp2_with (go_at_call 51;refine(yb5 s t (k:Int) _ hs ht (by omega) (by omega)).mono ?_;rintro e w' ⟨rfl,rfl⟩;rw [HA.out,HO.out]);go_ret;exact⟨q54 HF.out.symm,rfl⟩
      |false=>
       have HO:=qh ho;clear ho;go_wp2_with (go_at_call 51;refine(yb5 s t (k:Int) _ hs ht (by omega) (by omega)).mono ?_;rintro e w' ⟨rfl,rfl⟩;rw [HA.out,HO.out]);go_round
       case rel=>
        refine⟨k+1,by omega,.inl (by omega),by go_num,λ j h1 h2=> ?_⟩;by_cases e:j=k
        . subst e;exact HO.out
        . exact HN.out j h1 (by omega)
       case measure=>simp [intOf];omega
    . have HF:=qh (Zr6 (l:=s.data.toList) (t:=t.data.toList) (f:=f) (λ j h1 h2=>HN.out j h1 (by rw [qX6] at h2;omega)))
      go_wp2
      go_ret;exact⟨q54 HF.out.symm,rfl⟩
 by_cases hn:i<0
 . exact key _ i (.inr ⟨hn,by omega,h0⟩)
 . exact key _ i (.inl ⟨by omega,h1⟩)
theorem fnd0 (l t:List UInt8):xi9 l t 0=Lib.index l t:=by
 have:=Lib.index_ge l t;unfold xi9;rw [if_neg (by omega),List.drop_zero];split<;>omega
theorem ju1 (s t:ByteArray) (w:World) (hs:s.size<=140737488355328) (ht:t.size<=140737488355328) (h:Lib.indexB s t= -1):
 Calls Tryz.prog 49 #[.string s,.string t] w λ e w'=>e= .returned (.tuple #[.string s,.string ⟨#[]⟩,.bool false])/\∃ q,w'=w.drewN q:=by
 have hi:xi9 s.data.toList t.data.toList (0:Int).toNat= -1:=(fnd0 _ _).trans h;have HI:=qh hi;clear hi h;go_enter Tryz.func49,Tryz.ntmps49;go_wp2_with fail;refine(ju8 s t 0 _ hs ht (by omega) (by omega)).mono ?_;rintro e w1 ⟨rfl,rfl⟩;rw [HI.out];go_wp2_with fail;go_ret3;exact⟨rfl,0,rfl⟩
theorem QJ2 (s t:ByteArray) (w:World) (hs:s.size<=140737488355328) (ht:t.size<=140737488355328) (i:Nat) (h:Lib.indexB s t=i) (hr:i+t.size<=s.size):
 Calls Tryz.prog 49 #[.string s,.string t] w λ e w'=>e= .returned (.tuple #[.string (s.extract 0 i),.string (s.extract (i+t.size) s.size),.bool true])/\∃ q,w'=w.drewN q:=by
 have hi:xi9 s.data.toList t.data.toList (0:Int).toNat=(i:Int):=(fnd0 _ _).trans h;have HI:=qh hi;clear hi h;have i0:(0:Int)<=(i:Int):=by omega
 have i1:(i:Int)<=(s.size:Int):=by omega
 have i2:(0:Int)<=(i:Int)+(t.size:Int):=by omega
 have i3:(i:Int)+(t.size:Int)<=(s.size:Int):=by omega
 have i4:((i:Int)+(t.size:Int)).toNat=i+t.size:=by omega
 have j1:IntKind.i64.wrap ((i:Int)+(t.size:Int))=(i:Int)+(t.size:Int):=IntWalk.i64_in _ (by omega);go_enter Tryz.func49,Tryz.ntmps49;go_wp2_with fail;refine(ju8 s t 0 _ hs ht (by omega) (by omega)).mono ?_;rintro e w1 ⟨rfl,rfl⟩;rw [HI.out];go_wp2_with fail;go_quiet (fail)
 go_wp2_with fail;go_ret3;exact⟨rfl,nq,rfl⟩
end Go.Proofs.YtngepacmgabmaaaGreatDoor
