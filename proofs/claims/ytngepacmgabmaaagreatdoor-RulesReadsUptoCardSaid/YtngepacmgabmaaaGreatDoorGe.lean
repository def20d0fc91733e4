/- strings.CutPrefix; Plain: decoders that read a byte (or mor .. -/
import Derived.Test.YtngepacmgabmaaaGreatDoorGd
import Derived.Laws.BytesArg
import Derived.Laws.AppendOwn
import Derived.Laws.IdiomStrings
import Derived.Lib.Index
import Derived.Lib.IndexLaws
import Derived.Lib.SplitLaws
import Derived.Lib.Join
import Derived.Test.YtngepacmgabmaaaGreatDoorGc
import Derived.Deep.DeepCutAuto
import Derived.Deep.RegionHeld3
namespace Go.Proofs.YtngepacmgabmaaaGreatDoor
open Go.RowKit
set_option linter.unusedVariables false
set_option linter.unusedSimpArgs false
def j11 (s t:ByteArray):Bool:=Lib.hasPrefix s.data.toList t.data.toList
def Ju6 (s p:ByteArray):ByteArray:=⟨(Lib.trimPrefix s.data.toList p.data.toList).toArray⟩
theorem qV8 (s p:ByteArray) (w:World):Calls Tryz.prog 44 #[.string s,.string p] w λ e w'=>e= .returned (.tuple #[.string (Ju6 s p),.bool (j11 s p)])/\w=w':=
 (Tryz.strings_CutPrefix s p w).mono λ _ _ h=>⟨h.1,h.2.symm⟩
theorem Q76 (n:Nat) (h:n<=255):(UInt8.ofNat n).toNat=n:=by simp [UInt8.toNat_ofNat'];omega
theorem kd3 {b c:UInt8} (h:¬b=c):((b.toNat:Int)==(c.toNat:Int))=false:=by
 rw [beq_eq_false_iff_ne];intro e;apply h;apply UInt8.toNat_inj.1;omega
theorem zf5 {b c:UInt8} (h:b=c):((b.toNat:Int)==(c.toNat:Int))=true:=by rw [h];exact beq_self_eq_true _
theorem zx7 {b c:UInt8} (h:¬b=c):((b.toNat:Int) !=(c.toNat:Int))=true:=by rw [bne_iff_ne];intro e;apply h;apply UInt8.toNat_inj.1;omega
theorem Ku0 {b c:UInt8} (h:b=c):((b.toNat:Int) !=(c.toNat:Int))=false:=by rw [h];simp
theorem Kn7:(Tryz.prog.info? 5).map (λ i=>(i.zero,i.size,i.bytes))=some (some (.int .u8 0),1,1):=by kernel_rfl
def bv (b:UInt8):Value:= .int .u8 (b.toNat:Int)
def OB (w:World) (B:Nat) (v:Value) (l:List UInt8):Prop:=w.ownsRow B 5 1 v l.length (l.map bv)
theorem OB.nil (w:World) (B:Nat):OB w B (.slice none 0 0) []:=World.ownsRow_nil _ _ _ _
theorem OB.drew {w:World} {B:Nat} {v:Value} {l:List UInt8} (h:OB w B v l):OB w.drew B v l:=h
theorem OB.drewN {w:World} {B:Nat} {v:Value} {l:List UInt8} (h:OB w B v l) (n:Nat):OB (w.drewN n) B v l:=h
theorem OB.alloc {w:World} {B:Nat} {v:Value} {l:List UInt8} (h:OB w B v l) (o:Obj):OB (w.alloc o) B v l:=World.ownsRow.alloc h o
theorem OB.kept {w w':World} {B:Nat} {v:Value} {l:List UInt8} (h:OB w B v l) (hb:Below w.heap.size w w'):OB w' B v l:=by
 refine World.ownsRow.kept (row:=none) h ⟨hb.os,hb.tape,hb.output,hb.size,λ k hk _=>hb.block k hk⟩ ?_;cases v.ownBlock<;>simp
theorem below_drewN {B:Nat} {a w:World} (h:Below B a w) (n:Nat):Below B a (w.drewN n):=⟨h.os,h.tape,h.output,h.size,h.block⟩
theorem OB.form {w:World} {B:Nat} {v:Value} {l:List UInt8} (h:OB w B v l):∃ A c,v= .slice A l.length c:=by
 rcases h.2 with⟨rfl,hn⟩|⟨g,cap,cur,rfl,_⟩
 . exact⟨none,0,by rw [hn]⟩
 . exact⟨_,_,rfl⟩
section
variable {w:World} {B:Nat} {v:Value} {l:List UInt8}
theorem Z23 (l:List UInt8):strOfNums (l.map λ b=>(b.toNat:Int))=str l:=by
 simp [strOfNums,str,Function.comp_def]
theorem Q18 (h:OB w B v l):(convert 66 9 v).run Tryz.prog w= .ok (.string (str l)) w:=by
 rcases h.2 with⟨rfl,hn⟩|⟨g,cap,cur,rfl,_,hg,hle,hm,hcs,htk⟩
 . rw [run_convert_bytes_nil (P:=Tryz.prog) w 66 5 Tryz.underlying66 Tryz.underlying5 0 0 9 Tryz.underlying9];have:l= []:=List.eq_nil_of_length_eq_zero hn;subst this;rfl
 . rw [run_convert_bytes_arg (P:=Tryz.prog) w 66 5 Tryz.underlying66 Tryz.underlying5 g 0 l.length cap (l.map λ b=>(b.toNat:Int)) (by simp) (λ i hi=>by
    have hc:=h.cells (g:=g) rfl i (bv l[i]) (by simp [hi]);have hadd:(⟨g,0,none⟩:Addr).add i=⟨g,0+i,none⟩:=(by unfold Addr.add;split<;>simp_all);rw [hadd] at hc;rw [hc];simp [List.getD,hi,bv]) 9 Tryz.underlying9,Z23]
theorem kH0 (h:OB w B v l) (vals:List Value) (ns:List UInt8) (hv:vals=ns.map bv) (hlen:l.length+ns.length<=140737488355328) (hB:B<=w.heap.size) (ty:TypeId):
 ∃ v' w',(Builtin.append_ #[66,66] ty #[v,.slice (some ⟨w.heap.size,0,none⟩) vals.length vals.length]).run Tryz.prog (w.alloc (.cells vals.toArray 5))= .ok v' w'/\
  OB w' B v' (l++ns)/\Below B w w':=by
 obtain⟨i0,hi,hz0,hz1,hz2⟩:=info_parts Kn7;have hvl:vals.length=ns.length:=by rw [hv];simp
 obtain⟨v',w',h0,h1,h2,_⟩:=run_append_own (P:=Tryz.prog) (w.alloc (.cells vals.toArray 5)) B 66 ty 5 i0 (.int .u8 0) 1 1 Tryz.underlying66 hi hz0 hz1 hz2 rfl (by decide) v l.length (l.map bv) (h.alloc _)
  ⟨w.heap.size,0,none⟩ vals.length vals.length vals (by simp) (by
   intro j u hu;have hadd:(⟨w.heap.size,0,none⟩:Addr).add j=⟨w.heap.size,j,none⟩:=(by unfold Addr.add;split<;>simp_all);rw [hadd,(Blk.new w 5 vals.toArray).cell j]
   simpa using hu) (by
   intro u hu;rw [hv] at hu;obtain⟨b,_,rfl⟩:=List.mem_map.1 hu;rfl) (by unfold maxLen;omega) (by omega) (by simp;omega)
 refine⟨v',w',h0,?_,?_⟩
 . unfold OB;rw [List.length_append,List.map_append,<-hv,<-hvl];exact h1
 . have hb:Below B w (w.alloc (.cells vals.toArray 5)):=(Below.refl _ _).alloc hB _;exact hb.grown h2 (by simp;omega) (λ k hk=>(World.ownsRow.lt h k hk).1)
theorem ky4 {o:Oper} {a:Act} {K:Act->World->Prop} {Q:Exit->Act->World->Prop} (s x:Operand)
 (ho:o.op= .call {callee:= .builtin .append,args:=#[s,x],argTypes:=#[66,66]})
 (h:OB w B v l) (hs:a.eval s=v) (vals:List Value) (ns:List UInt8) (hv:vals=ns.map bv)
 (hx:a.eval x= .slice (some ⟨w.heap.size,0,none⟩) vals.length vals.length) (hlen:l.length+ns.length<=140737488355328) (hB:B<=w.heap.size)
 (hK:∀ v' w',OB w' B v' (l++ns)->Below B w w'->K (a.put o.dst v') w'):o.wp Tryz.prog a (w.alloc (.cells vals.toArray 5)) K Q:=by
 obtain⟨v',w',hrun,h2,h3⟩:=kH0 h vals ns hv hlen hB o.type;unfold Oper.wp execOp;simp only [ho,resolve,invoke,builtin,Sem.run_bind,Sem.run_pure,Result.andThen_ok,List.map_toArray,List.map_cons,List.map_nil,hs,hx,hrun];exact hK v' w' h2 h3
theorem QI7 {ops:Array Oper} {rest:List Oper} {o:Oper} {a:Act} {Q:Exit->Act->World->Prop} (hgd:o.guard=none) (s x:Operand)
 (ho:o.op= .call {callee:= .builtin .append,args:=#[s,x],argTypes:=#[66,66]})
 (h:OB w B v l) (hs:a.eval s=v) (vals:List Value) (ns:List UInt8) (hv:vals=ns.map bv)
 (hx:a.eval x= .slice (some ⟨w.heap.size,0,none⟩) vals.length vals.length) (hlen:l.length+ns.length<=140737488355328) (hB:B<=w.heap.size)
 (hK:∀ v' w',OB w' B v' (l++ns)->Below B w w'->wpList Tryz.prog ops Q rest (a.put o.dst v') w'):
 wpList Tryz.prog ops Q (o::rest) a (w.alloc (.cells vals.toArray 5)):=
 wpList_plain hgd λ _ hK'=>ky4 s x ho h hs vals ns hv hx hlen hB λ v' w' h2 h3=>hK' _ _ (hK v' w' h2 h3)
end


def atB (l:List UInt8) (i:Int) (t:List UInt8):Bool:=decide (0<=i)&&decide (i<=l.length)&&Lib.occAt l t i.toNat
theorem yU2 (s t:ByteArray) (k:Nat):Lib.occAt s.data.toList t.data.toList k=true<->(s.extract k (k+t.size)).data.toList=t.data.toList:=by
 unfold Lib.occAt;rw [List.isPrefixOf_iff_prefix,Yz8,List.prefix_iff_eq_take,List.drop_take,show k+t.size-k=t.size from by omega,qX6];exact eq_comm
theorem yY4 {s t:ByteArray} {k:Nat} (h:s.size<k+t.size) (hk:k<=s.size):Lib.occAt s.data.toList t.data.toList k=false:=by
 rw [Bool.eq_false_iff];intro ho;unfold Lib.occAt at ho;have:=(List.isPrefixOf_iff_prefix.1 ho).length_le;rw [qX6,List.length_drop,qX6] at this;omega
set_option maxHeartbeats 400000 in
theorem yb5 (s t:ByteArray) (i:Int) (w:World) (hs:s.size<=140737488355328) (ht:t.size<=140737488355328) (h0: -9223372036854775808<=i) (h1:i<=9223372036854775807):
 Calls Tryz.prog 51 #[.string s,.int .i64 i,.string t] w λ e w'=>e= .returned (.bool (atB s.data.toList i t.data.toList))/\w=w':=by
 by_cases c0:0<=i
 . by_cases c1:i<=s.size
   . obtain⟨k,rfl⟩:=Int.eq_ofNat_of_zero_le c0
     have hat:atB s.data.toList (k:Int) t.data.toList=Lib.occAt s.data.toList t.data.toList k:=by
      unfold atB;rw [qX6];simp [c1]
     rw [hat];clear hat;by_cases c2:(t.size:Int)<=(s.size:Int)-k
     . go_enter Tryz.func51,Tryz.ntmps51
       go_wp2
       go_ret;exact⟨Kh9 (by rw [Bool.eq_iff_iff,yU2,beq_iff_eq,Lib.toList_data,Lib.toList_data]),rfl⟩
     . rw [yY4 (by omega) (by omega)];go_enter Tryz.func51,Tryz.ntmps51
       go_wp2
       go_ret;exact⟨rfl,rfl⟩
   . have hat:atB s.data.toList i t.data.toList=false:=(by unfold atB;rw [qX6];simp [c1]);rw [hat];clear hat;go_enter Tryz.func51,Tryz.ntmps51
     go_wp2
     go_ret;exact⟨rfl,rfl⟩
 . have hat:atB s.data.toList i t.data.toList=false:=(by unfold atB;simp [c0]);rw [hat];clear hat;go_enter Tryz.func51,Tryz.ntmps51
   go_wp2
   go_ret;exact⟨rfl,rfl⟩
def xi9 (l t:List UInt8) (f:Nat):Int:=if l.length<f then-1 else if 0<=Lib.index (l.drop f) t then f+Lib.index (l.drop f) t else-1
theorem Kp2 (l t:List UInt8) (f j:Nat):Lib.occAt (l.drop f) t j=Lib.occAt l t (f+j):=by unfold Lib.occAt;rw [List.drop_drop]
theorem x48 {l t:List UInt8} {f i:Nat} (hf:f<=i) (hi:i<=l.length) (h:Lib.occAt l t i=true) (hn:∀ j,f<=j->j<i->Lib.occAt l t j=false):xi9 l t f=i:=by
 have h1:Lib.index (l.drop f) t=((i-f:Nat):Int):=by
  refine Lib.index_first (by rw [List.length_drop];omega) ?_ ?_
  . rw [Kp2,show f+(i-f)=i from by omega];exact h
  . intro j hj;rw [Kp2];exact hn _ (by omega) (by omega)
 unfold xi9;rw [if_neg (by omega),h1,if_pos (by omega)];omega
theorem Zr6 {l t:List UInt8} {f:Nat} (hn:∀ j,f<=j->j<=l.length->Lib.occAt l t j=false):xi9 l t f= -1:=by
 unfold xi9;split
 . rfl
 . have h1:Lib.index (l.drop f) t= -1:=by
    refine Lib.index_none ?_;intro j hj;rw [List.length_drop] at hj;rw [Kp2];exact hn _ (by omega) (by omega)
   rw [h1];rfl
set_option maxHeartbeats 400000 in
theorem ju8 (s t:ByteArray) (i:Int) (w:World) (hs:s.size<=140737488355328) (ht:t.size<=140737488355328) (h0: -9223372036854775808<=i) (h1:i<=9223372036854775807):
 Calls Tryz.prog 85 #[.string s,.string t,.int .i64 i] w λ e w'=>e= .returned (.int .i64 (xi9 s.data.toList t.data.toList i.toNat))/\w=w':=by
 have key:∀ (f:Nat) (x:Int),(x=f/\x<=9223372036854775807)\/(x<0/\f=0/\ -9223372036854775808<=x)->Calls Tryz.prog 85 #[.string s,.string t,.int .i64 x] w λ e w'=>e= .returned (.int .i64 (xi9 s.data.toList t.data.toList f))/\w=w':=by
  intro f x hx;have HX:=qh hx;have hx0:x<=9223372036854775807:=by omega
  have hx1: -9223372036854775808<=x:=by omega
  by_cases hneg:x<0
  all_goals
   have hf:(f:Int)<=9223372036854775807:=(by omega);clear hx;go_enter Tryz.func85,Tryz.ntmps85;go_wp2_with fail;go_loop [7] (λ j=>∃ k:Nat,f<=k/\(k<=s.size+1\/k=f)/\j= .int .i64 k/\Hid (∀ j,f<=j->j<k->Lib.occAt s.data.toList t.data.toList j=false)) (λ j=>s.size+1-(intOf j).toNat)
   case atStart=>
    refine⟨f,by omega,.inr rfl,?_,λ j h1 h2=>absurd h2 (by omega)⟩;have:=HX.out;first|(congr 1;omega)|(rw [show f=0 by omega];rfl)
   case round=>
    obtain⟨k,hk,hk2,rfl,HN⟩:=hrel;by_cases hle:k<=s.size
    . have hat:atB s.data.toList (k:Int) t.data.toList=Lib.occAt s.data.toList t.data.toList k:=by
       unfold atB;rw [qX6];simp [show (k:Int)<=s.size by omega]
      have HA:=qh hat;clear hat;cases ho:Lib.occAt s.data.toList t.data.toList k with
      |true=>
       have HF:=qh (x48 hk (by rw [qX6];exact hle) ho HN.out);have HO:=qh ho;clear ho;go_wp2_with (go_at_call 51;refine(yb5 s t (k:Int) _ hs ht (by omega) (by omega)).mono ?_;rintro e w' ⟨rfl,rfl⟩;rw [HA.out,HO.out]);go_ret;exact⟨q54 HF.out.symm,rfl⟩
      |false=>
       have HO:=qh ho;clear ho;go_wp2_with (go_at_call 51;refine(yb5 s t (k:Int) _ hs ht (by omega) (by omega)).mono ?_;rintro e w' ⟨rfl,rfl⟩;rw [HA.out,HO.out]);go_round
       case rel=>
        refine⟨k+1,by omega,.inl (by omega),by go_num,λ j h1 h2=> ?_⟩;by_cases e:j=k
        . subst e;exact HO.out
        . exact HN.out j h1 (by omega)
       case measure=>simp [intOf];omega
    . have HF:=qh (Zr6 (l:=s.data.toList) (t:=t.data.toList) (f:=f) (λ j h1 h2=>HN.out j h1 (by rw [qX6] at h2;omega)))
      go_wp2
      go_ret;exact⟨q54 HF.out.symm,rfl⟩
 by_cases hn:i<0
 . exact key _ i (.inr ⟨hn,by omega,h0⟩)
 . exact key _ i (.inl ⟨by omega,h1⟩)
theorem fnd0 (l t:List UInt8):xi9 l t 0=Lib.index l t:=by
 have:=Lib.index_ge l t;unfold xi9;rw [if_neg (by omega),List.drop_zero];split<;>omega
theorem ju1 (s t:ByteArray) (w:World) (hs:s.size<=140737488355328) (ht:t.size<=140737488355328) (h:Lib.indexB s t= -1):
 Calls Tryz.prog 49 #[.string s,.string t] w λ e w'=>e= .returned (.tuple #[.string s,.string ⟨#[]⟩,.bool false])/\∃ q,w'=w.drewN q:=by
 have hi:xi9 s.data.toList t.data.toList (0:Int).toNat= -1:=(fnd0 _ _).trans h;have HI:=qh hi;clear hi h;go_enter Tryz.func49,Tryz.ntmps49;go_wp2_with fail;refine(ju8 s t 0 _ hs ht (by omega) (by omega)).mono ?_;rintro e w1 ⟨rfl,rfl⟩;rw [HI.out];go_wp2_with fail;go_ret3;exact⟨rfl,0,rfl⟩
theorem QJ2 (s t:ByteArray) (w:World) (hs:s.size<=140737488355328) (ht:t.size<=140737488355328) (i:Nat) (h:Lib.indexB s t=i) (hr:i+t.size<=s.size):
 Calls Tryz.prog 49 #[.string s,.string t] w λ e w'=>e= .returned (.tuple #[.string (s.extract 0 i),.string (s.extract (i+t.size) s.size),.bool true])/\∃ q,w'=w.drewN q:=by
 have hi:xi9 s.data.toList t.data.toList (0:Int).toNat=(i:Int):=(fnd0 _ _).trans h;have HI:=qh hi;clear hi h;have i0:(0:Int)<=(i:Int):=by omega
 have i1:(i:Int)<=(s.size:Int):=by omega
 have i2:(0:Int)<=(i:Int)+(t.size:Int):=by omega
 have i3:(i:Int)+(t.size:Int)<=(s.size:Int):=by omega
 have i4:((i:Int)+(t.size:Int)).toNat=i+t.size:=by omega
 have j1:IntKind.i64.wrap ((i:Int)+(t.size:Int))=(i:Int)+(t.size:Int):=IntWalk.i64_in _ (by omega);go_enter Tryz.func49,Tryz.ntmps49;go_wp2_with fail;refine(ju8 s t 0 _ hs ht (by omega) (by omega)).mono ?_;rintro e w1 ⟨rfl,rfl⟩;rw [HI.out];go_wp2_with fail;go_quiet (fail)
 go_wp2_with fail;go_ret3;exact⟨rfl,nq,rfl⟩
def y27 (s t:ByteArray):ByteArray×ByteArray×Bool:=(str (Lib.cut s.data.toList t.data.toList).1,str (Lib.cut s.data.toList t.data.toList).2.1,(Lib.cut s.data.toList t.data.toList).2.2)
theorem qq6 {s t:ByteArray} (h:Lib.indexB s t= -1):y27 s t=(s,⟨#[]⟩,false):=by
 have h':Lib.index s.data.toList t.data.toList= -1:=h;unfold y27 Lib.cut;rw [h',if_neg (by omega)]
theorem Q33 {s t:ByteArray} {i:Nat} (h:Lib.indexB s t=i) (hr:i+t.size<=s.size):y27 s t=(s.extract 0 i,s.extract (i+t.size) s.size,true):=by
 have h':Lib.index s.data.toList t.data.toList=i:=h;unfold y27 Lib.cut;rw [h',if_pos (by omega)];refine Prod.ext ?_ (Prod.ext ?_ rfl)
 . apply zH9;show (str _).data.toList=_;rw [Yz8,Qe9];simp
 . apply zH9;show (str _).data.toList=_;rw [Yz8,Qe9,qX6,jS5 s (Nat.le_refl _)];simp
theorem Jb0 (s t:ByteArray):(y27 s t).1.size<=s.size/\(y27 s t).2.1.size<=s.size:=by
 rcases Lib.indexB_cases s t with h|⟨i,h,hr⟩
 . rw [qq6 h];exact⟨Nat.le_refl _,Nat.zero_le _⟩
 . rw [Q33 h hr];dsimp only;rw [ByteArray.size_extract,ByteArray.size_extract];omega
theorem xW6 (s t:ByteArray) (w:World) (hs:s.size<=140737488355328) (ht:t.size<=140737488355328):
 Calls Tryz.prog 49 #[.string s,.string t] w λ e w'=>e= .returned (.tuple #[.string (y27 s t).1,.string (y27 s t).2.1,.bool (y27 s t).2.2])/\∃ q,w'=w.drewN q:=by
 rcases Lib.indexB_cases s t with h|⟨i,h,hr⟩
 . rw [qq6 h];exact ju1 s t w hs ht h
 . rw [Q33 h hr];exact QJ2 s t w hs ht i h hr
theorem YN5 (s t:ByteArray) (m:Int) (w:World) (hs:s.size<=1048576) (hm:w.cell? ⟨4,0,none⟩=some (.int .i64 m)):
 Calls Tryz.prog 12 #[.string s,.string t] w λ e w'=>e= .returned (.tuple #[.string (y27 s t).1,.string (y27 s t).2.1,.bool (y27 s t).2.2])/\∃ q,w'=w.drewN q:=
 Tryz.strings_Cut s t m w (by omega) hm
def rvM (s:ByteArray):Int×ByteArray:=if j11 s ⟨#[35]⟩=true then (1,Ju6 s ⟨#[35]⟩) else if j11 s ⟨#[33]⟩=true then (2,Ju6 s ⟨#[33]⟩) else (0,s)
def rvV (s:ByteArray):Vr:=⟨plW Jf7 (y27 (rvM s).2 ⟨#[58]⟩).1,(rvM s).1,(y27 (rvM s).2 ⟨#[58]⟩).2.1⟩
def rvB (s:ByteArray):Bool:=decide (0<plW Jf7 (y27 (rvM s).2 ⟨#[58]⟩).1)&&((y27 (rvM s).2 ⟨#[58]⟩).2.2== !(y27 (rvM s).2 ⟨#[58]⟩).2.1.toList.isEmpty)
theorem QW7 (s p:ByteArray):(Ju6 s p).size<=s.size:=by
 show (Lib.trimPrefix s.data.toList p.data.toList).toArray.size<=_;rw [List.size_toArray,<-qX6];unfold Lib.trimPrefix;split
 . rw [List.length_drop];omega
 . exact Nat.le_refl _
theorem Km8 (s:ByteArray):(rvM s).2.size<=s.size:=by
 unfold rvM;split
 . exact QW7 _ _
 . split
   . exact QW7 _ _
   . exact Nat.le_refl _
structure V2 (w wr:World) (k m:Int) (n:ByteArray):Prop where
 r:Blk wr w.heap.size 51 #[.int .i64 0,.int .i64 0,.string {data:=#[]}]
 v:Blk wr (w.heap.size+1) 51 #[.int .i64 k,.int .i64 m,.string n]
 be:Below w.heap.size w wr
section
variable {w wr wr':World} {k m:Int} {n:ByteArray}
theorem V2.start (w:World):V2 w ((w.alloc (.cells #[.int .i64 0,.int .i64 0,.string {data:=#[]}] 51)).alloc (.cells #[.int .i64 0,.int .i64 0,.string {data:=#[]}] 51)) 0 0 {data:=#[]}:=by
 refine⟨Blk.alloc (Blk.new _ _ _) _,?_,((Below.refl _ _).alloc (Nat.le_refl _) _).alloc (by simp) _⟩;have:=Blk.new (w.alloc (.cells #[.int .i64 0,.int .i64 0,.string {data:=#[]}] 51)) 51 #[.int .i64 0,.int .i64 0,.string {data:=#[]}]
 simpa using this
theorem V2.lt (h:V2 w wr k m n):w.heap.size+1<wr.heap.size:=Blk.lt h.v
theorem V2.kept (h:V2 w wr k m n) (hb:Below wr.heap.size wr wr'):V2 w wr' k m n:=⟨h.r.below hb (Blk.lt h.r),h.v.below hb (Blk.lt h.v),h.be.trans (hb.mono (by have:=h.lt;omega))⟩
theorem V2.drewN (h:V2 w wr k m n) (q:Nat):V2 w (wr.drewN q) k m n:=⟨h.r,h.v,below_drewN h.be q⟩
theorem V2.mode (h:V2 w wr k m n) (m':Int):V2 w (wr.setCell ⟨w.heap.size+1,1,none⟩ (.int .i64 m')) k m' n:=⟨h.r.far (by simp) _,h.v.set_ 1 _,h.be.setCell (p:=⟨w.heap.size+1,1,none⟩) (Nat.le_succ _) _⟩
theorem V2.kind (h:V2 w wr k m n) (k':Int) (n':ByteArray):V2 w ((wr.setCell ⟨w.heap.size+1,0,none⟩ (.int .i64 k')).setCell ⟨w.heap.size+1,2,none⟩ (.string n')) k' m n':=⟨(h.r.far (by simp) _).far (by simp) _,(h.v.set_ 0 _).set_ 2 _,(h.be.setCell (p:=⟨w.heap.size+1,0,none⟩) (Nat.le_succ _) _).setCell (p:=⟨w.heap.size+1,2,none⟩) (Nat.le_succ _) _⟩
theorem V2.facts (h:V2 w wr k m n):wr.cell? ⟨w.heap.size+1,0,none⟩=some (.int .i64 k)/\wr.cell? ⟨w.heap.size+1,1,none⟩=some (.int .i64 m)/\wr.cell? ⟨w.heap.size+1,2,none⟩=some (.string n)/\wr.frozen? ⟨w.heap.size+1,0,none⟩=false/\wr.frozen? ⟨w.heap.size+1,1,none⟩=false/\wr.frozen? ⟨w.heap.size+1,2,none⟩=false/\w.heap.size+1<wr.heap.size:=
 ⟨h.v.cell 0,h.v.cell 1,h.v.cell 2,h.v.frozen 0,h.v.frozen 1,h.v.frozen 2,h.lt⟩
theorem V2.res (h:V2 w wr k m n):wr.cell? ⟨w.heap.size,0,none⟩=some (.int .i64 0)/\wr.cell? ⟨w.heap.size,1,none⟩=some (.int .i64 0)/\wr.cell? ⟨w.heap.size,2,none⟩=some (.string {data:=#[]})/\wr.frozen? ⟨w.heap.size,0,none⟩=false/\wr.frozen? ⟨w.heap.size,1,none⟩=false/\wr.frozen? ⟨w.heap.size,2,none⟩=false:=
 ⟨h.r.cell 0,h.r.cell 1,h.r.cell 2,h.r.frozen 0,h.r.frozen 1,h.r.frozen 2⟩
theorem V2.put (h:V2 w wr k m n):∃ wz,wz=(((wr.setCell ⟨w.heap.size,0,none⟩ (.int .i64 k)).setCell ⟨w.heap.size,1,none⟩ (.int .i64 m)).setCell ⟨w.heap.size,2,none⟩ (.string n))/\Below w.heap.size w wz/\wz.cell? ⟨w.heap.size,0,none⟩=some (.int .i64 k)/\wz.cell? ⟨w.heap.size,1,none⟩=some (.int .i64 m)/\wz.cell? ⟨w.heap.size,2,none⟩=some (.string n):=by
 have h2:=((h.r.set_ 0 (.int .i64 k)).set_ 1 (.int .i64 m)).set_ 2 (.string n);exact⟨_,rfl,((h.be.setCell (p:=⟨w.heap.size,0,none⟩) (Nat.le_refl _) _).setCell (p:=⟨w.heap.size,1,none⟩) (Nat.le_refl _) _).setCell (p:=⟨w.heap.size,2,none⟩) (Nat.le_refl _) _,h2.cell 0,h2.cell 1,h2.cell 2⟩
end
section
variable (s:ByteArray) (m:Int) (w:World)
set_option maxRecDepth 100000 in
set_option maxHeartbeats 4000000 in
theorem Zk1 (hs:s.size<=1048576) (hm:w.cell? ⟨4,0,none⟩=some (.int .i64 m)):
 Calls Tryz.prog 41 #[.string s] w λ e w'=>e= .returned (.tuple #[.agg #[.int .i64 (rvV s).k,.int .i64 (rvV s).m,.string (rvV s).n],.bool (rvB s)])/\Below w.heap.size w w':=by
 have CP1:=qh λ w'=>qV8 s ⟨#[35]⟩ w'
 have CP2:=qh λ w'=>qV8 s ⟨#[33]⟩ w'
 have hg:=World.block_lt_of_cell? _ _ hm;have CC:=qh λ w' (hb:Below w.heap.size w w')=>YN5 (rvM s).2 ⟨#[58]⟩ m w' (Nat.le_trans (Km8 s) hs) ((hb.cell (p:=⟨4,0,none⟩) hg).trans hm)
 obtain⟨K,hK⟩:∃ K,K=plW Jf7 (y27 (rvM s).2 ⟨#[58]⟩).1:=⟨_,rfl⟩;have CPl:=qh λ w'=>zs4 (y27 (rvM s).2 ⟨#[58]⟩).1 w'
 have hK0:0<=K:=by rw [hK];exact zS1 _ _
 rw [<-hK] at CPl;have hV:rvV s=⟨K,(rvM s).1,(y27 (rvM s).2 ⟨#[58]⟩).2.1⟩:=by rw [hK];rfl
 have hB:rvB s=(decide (0<K)&&((y27 (rvM s).2 ⟨#[58]⟩).2.2== !(y27 (rvM s).2 ⟨#[58]⟩).2.1.toList.isEmpty)):=by rw [hK];rfl
 have hM:rvM s=if j11 s ⟨#[35]⟩=true then (1,Ju6 s ⟨#[35]⟩) else if j11 s ⟨#[33]⟩=true then (2,Ju6 s ⟨#[33]⟩) else (0,s):=rfl
 rw [hV,hB];dsimp only;obtain⟨M,hMe⟩:∃ M,M=rvM s:=⟨_,rfl⟩;rw [<-hMe] at hM CC CPl⊢;obtain⟨md,t⟩:=M;dsimp only at CC CPl⊢;obtain⟨C,hC⟩:∃ C,C=y27 t ⟨#[58]⟩:=⟨_,rfl⟩;rw [<-hC] at CC CPl⊢;obtain⟨a,b,ok⟩:=C;dsimp only at CC CPl⊢;have HM:=qh hM;obtain⟨R,hR⟩:∃ R,R=(decide (0<K)&&(ok== !b.toList.isEmpty)):=⟨_,rfl⟩;rw [<-hR];have HR:=qh hR;clear hK hV hB hM hMe hC hm hR;obtain⟨b1,hb1⟩:∃ b1,b1=j11 s ⟨#[35]⟩:=⟨_,rfl⟩;obtain⟨b2,hb2⟩:∃ b2,b2=j11 s ⟨#[33]⟩:=⟨_,rfl⟩;obtain⟨t1,ht1⟩:∃ t1,t1=Ju6 s ⟨#[35]⟩:=⟨_,rfl⟩;obtain⟨t2,ht2⟩:∃ t2,t2=Ju6 s ⟨#[33]⟩:=⟨_,rfl⟩;rw [<-hb1,<-ht1] at CP1;rw [<-hb2,<-ht2] at CP2;rw [<-hb1,<-hb2,<-ht1,<-ht2] at HM;clear hb1 hb2 ht1 ht2;have hv0:=V2.start w;go_enter Tryz.func41,Tryz.ntmps41;go_upto_region 2 with fail;obtain⟨W0,hW0⟩:∃ W0,((w.alloc (.cells #[.int .i64 0,.int .i64 0,.string {data:=#[]}] 51)).alloc (.cells #[.int .i64 0,.int .i64 0,.string {data:=#[]}] 51))=W0:=⟨_,rfl⟩;rw [hW0] at hv0⊢;have HV0:=qh hv0;clear hW0 hv0;obtain⟨f0,f1,f2,f3,f4,f5,f6⟩:=HV0.out.facts;go_wp2_with fail;refine(CP1.out _).mono ?_;rintro e w' ⟨rfl,rfl⟩;go_upto_if 17 with fail;go_cut [0,7,8] from 18 to 27 (λ u _ _ wx=>u= .string t/\Hid (V2 w wx 0 md {data:=#[]}))
 case first=>
  cases b1 with
  |true=>
   have h:=HM.out;rw [if_pos rfl] at h;cases h;obtain⟨W1,hW1⟩:∃ W1,W0.setCell ⟨w.heap.size+1,1,none⟩ (.int .i64 1)=W1:=⟨_,rfl⟩;have HV1:Hid (V2 w W1 0 1 {data:=#[]}):=qh (by rw [<-hW1];exact HV0.out.mode 1);go_wp2_with fail;go_meet;exact⟨rfl,HV1⟩
  |false=>
   cases b2 with
   |true=>
    have h:=HM.out;rw [if_neg (by decide),if_pos rfl] at h;cases h;obtain⟨W1,hW1⟩:∃ W1,W0.setCell ⟨w.heap.size+1,1,none⟩ (.int .i64 2)=W1:=⟨_,rfl⟩;have HV1:Hid (V2 w W1 0 2 {data:=#[]}):=qh (by rw [<-hW1];exact HV0.out.mode 2);go_wp2_with fail;refine(CP2.out _).mono ?_;rintro e w' ⟨rfl,rfl⟩;go_wp2_with fail;go_meet;exact⟨rfl,HV1⟩
   |false=>
    have h:=HM.out;rw [if_neg (by decide),if_neg (by decide)] at h;cases h;go_wp2_with fail;refine(CP2.out _).mono ?_;rintro e w' ⟨rfl,rfl⟩;go_wp2_with fail;go_meet;exact⟨rfl,HV0⟩
 case rest=>
  obtain⟨rfl,HV1⟩:=hcut;clear f0 f1 f2 f3 f4 f5 f6 HV0 CP1 CP2 HM;go_wp2_with fail;refine(CC.out _ HV1.out.be).mono ?_;rintro e w2 ⟨rfl,q,hq⟩;have HV2:Hid (V2 w w2 0 md {data:=#[]}):=qh (by rw [hq];exact HV1.out.drewN q);clear hq HV1 CC;obtain⟨f0,f1,f2,f3,f4,f5,f6⟩:=HV2.out.facts;obtain⟨W3,hW3⟩:∃ W3,(w2.setCell ⟨w.heap.size+1,0,none⟩ (.int .i64 K)).setCell ⟨w.heap.size+1,2,none⟩ (.string b)=W3:=⟨_,rfl⟩;have HV3:Hid (V2 w W3 K md b):=qh (by rw [<-hW3];exact HV2.out.kind K b);obtain⟨c0,c1,c2,_,_,_,c6⟩:=HV3.out.facts;obtain⟨r0,r1,r2,r3,r4,r5⟩:=HV3.out.res;obtain⟨wz,hwz,hzb,z0,z1,z2⟩:=HV3.out.put;have HZB:=qh hzb;have HWZ:=qh hwz;have HZ:=qh (And.intro z0 (And.intro z1 z2));clear hzb hwz z0 z1 z2;obtain⟨e,he⟩:∃ e,e=b.toList.isEmpty:=⟨_,rfl⟩;have he2:b.toList.isEmpty=e:=he.symm;have HEE:=qh he;clear he;by_cases hk:0<K
  . have k1:decide ((0:Int)<K)=true:=dT hk;have HF:Hid (R=(ok== !e)):=qh (by rw [HR.out,k1,he2];rfl);clear hk HR;cases ok<;>cases e
    all_goals
     go_wp2_with (first|(refine(CPl.out _).mono ?_;rintro e w' ⟨rfl,rfl⟩)|fail);rw [<-HWZ.out];obtain⟨z0,z1,z2⟩:=HZ.out;refine bodyPost_ret (v:= .tuple #[.agg #[.int .i64 K,.int .i64 md,.string b],.bool R]) (by rw [HF.out];simp [results,Tryz.results41,go_sem,z0,z1,z2]) rfl ⟨rfl,HZB.out⟩
  . have k1:decide ((0:Int)<K)=false:=dF hk;have HF:Hid (R=false):=qh (by rw [HR.out,k1];rfl);clear hk HR;go_wp2_with (first|(refine(CPl.out _).mono ?_;rintro e w' ⟨rfl,rfl⟩)|fail);rw [<-HWZ.out];obtain⟨z0,z1,z2⟩:=HZ.out;refine bodyPost_ret (v:= .tuple #[.agg #[.int .i64 K,.int .i64 md,.string b],.bool R]) (by rw [HF.out];simp [results,Tryz.results41,go_sem,z0,z1,z2]) rfl ⟨rfl,HZB.out⟩
end
end Go.Proofs.YtngepacmgabmaaaGreatDoor
