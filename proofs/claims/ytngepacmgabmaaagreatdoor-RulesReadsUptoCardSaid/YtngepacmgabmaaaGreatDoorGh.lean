/- Pipes (P11, P12): words and what is wron; Walk: wickref.Joined; strings.Split, str .. -/
import Derived.Test.YtngepacmgabmaaaGreatDoorGf
namespace Go.Proofs.YtngepacmgabmaaaGreatDoor
open Go.RowKit
set_option linter.unusedVariables false
set_option linter.unusedSimpArgs false
def pwL:List (List UInt8):= [[],[108,111,119,101,114],[117,114,108],[104,101,120],[98,97,115,101],[104,116,109,108],[112,97,116,104],[115,113,117,101,101,122,101],[110,111,110,117,108,108],[116,114,105,109],[108,101,110,103,116,104],[99,109,100]]
def pwB (k:Nat):ByteArray:=str (pwL.getD k [])
set_option maxRecDepth 100000 in
set_option maxHeartbeats 4000000 in
theorem JP4 (k:Nat) (hk:k<12) (w:World):Calls Tryz.prog 84 #[.int .i64 (k:Int)] w λ e w'=>e= .returned (.string (pwB k))/\w=w':=by
 obtain rfl|rfl|rfl|rfl|rfl|rfl|rfl|rfl|rfl|rfl|rfl|rfl:k=0\/k=1\/k=2\/k=3\/k=4\/k=5\/k=6\/k=7\/k=8\/k=9\/k=10\/k=11:=by omega
 . have ix:∀ w,(Instr.index 98 (.agg #[.string ⟨#[]⟩,.string ⟨#[108,111,119,101,114]⟩,.string ⟨#[117,114,108]⟩,.string ⟨#[104,101,120]⟩,.string ⟨#[98,97,115,101]⟩,.string ⟨#[104,116,109,108]⟩,.string ⟨#[112,97,116,104]⟩,.string ⟨#[115,113,117,101,101,122,101]⟩,.string ⟨#[110,111,110,117,108,108]⟩,.string ⟨#[116,114,105,109]⟩,.string ⟨#[108,101,110,103,116,104]⟩,.string ⟨#[99,109,100]⟩]) (.int .i64 0)).run Tryz.prog w= .ok (.string ⟨#[]⟩) w:=λ _=>by kernel_rfl
   go_enter Tryz.func84,Tryz.ntmps84;go_wp2_with fail;go_ret;exact⟨rfl,rfl⟩
 . have ix:∀ w,(Instr.index 98 (.agg #[.string ⟨#[]⟩,.string ⟨#[108,111,119,101,114]⟩,.string ⟨#[117,114,108]⟩,.string ⟨#[104,101,120]⟩,.string ⟨#[98,97,115,101]⟩,.string ⟨#[104,116,109,108]⟩,.string ⟨#[112,97,116,104]⟩,.string ⟨#[115,113,117,101,101,122,101]⟩,.string ⟨#[110,111,110,117,108,108]⟩,.string ⟨#[116,114,105,109]⟩,.string ⟨#[108,101,110,103,116,104]⟩,.string ⟨#[99,109,100]⟩]) (.int .i64 1)).run Tryz.prog w= .ok (.string ⟨#[108,111,119,101,114]⟩) w:=λ _=>by kernel_rfl
   go_enter Tryz.func84,Tryz.ntmps84;go_wp2_with fail;go_ret;exact⟨rfl,rfl⟩
 . have ix:∀ w,(Instr.index 98 (.agg #[.string ⟨#[]⟩,.string ⟨#[108,111,119,101,114]⟩,.string ⟨#[117,114,108]⟩,.string ⟨#[104,101,120]⟩,.string ⟨#[98,97,115,101]⟩,.string ⟨#[104,116,109,108]⟩,.string ⟨#[112,97,116,104]⟩,.string ⟨#[115,113,117,101,101,122,101]⟩,.string ⟨#[110,111,110,117,108,108]⟩,.string ⟨#[116,114,105,109]⟩,.string ⟨#[108,101,110,103,116,104]⟩,.string ⟨#[99,109,100]⟩]) (.int .i64 2)).run Tryz.prog w= .ok (.string ⟨#[117,114,108]⟩) w:=λ _=>by kernel_rfl
   go_enter Tryz.func84,Tryz.ntmps84;go_wp2_with fail;go_ret;exact⟨rfl,rfl⟩
 . have ix:∀ w,(Instr.index 98 (.agg #[.string ⟨#[]⟩,.string ⟨#[108,111,119,101,114]⟩,.string ⟨#[117,114,108]⟩,.string ⟨#[104,101,120]⟩,.string ⟨#[98,97,115,101]⟩,.string ⟨#[104,116,109,108]⟩,.string ⟨#[112,97,116,104]⟩,.string ⟨#[115,113,117,101,101,122,101]⟩,.string ⟨#[110,111,110,117,108,108]⟩,.string ⟨#[116,114,105,109]⟩,.string ⟨#[108,101,110,103,116,104]⟩,.string ⟨#[99,109,100]⟩]) (.int .i64 3)).run Tryz.prog w= .ok (.string ⟨#[104,101,120]⟩) w:=λ _=>by kernel_rfl
   go_enter Tryz.func84,Tryz.ntmps84;go_wp2_with fail;go_ret;exact⟨rfl,rfl⟩
 . have ix:∀ w,(Instr.index 98 (.agg #[.string ⟨#[]⟩,.string ⟨#[108,111,119,101,114]⟩,.string ⟨#[117,114,108]⟩,.string ⟨#[104,101,120]⟩,.string ⟨#[98,97,115,101]⟩,.string ⟨#[104,116,109,108]⟩,.string ⟨#[112,97,116,104]⟩,.string ⟨#[115,113,117,101,101,122,101]⟩,.string ⟨#[110,111,110,117,108,108]⟩,.string ⟨#[116,114,105,109]⟩,.string ⟨#[108,101,110,103,116,104]⟩,.string ⟨#[99,109,100]⟩]) (.int .i64 4)).run Tryz.prog w= .ok (.string ⟨#[98,97,115,101]⟩) w:=λ _=>by kernel_rfl
   go_enter Tryz.func84,Tryz.ntmps84;go_wp2_with fail;go_ret;exact⟨rfl,rfl⟩
 . have ix:∀ w,(Instr.index 98 (.agg #[.string ⟨#[]⟩,.string ⟨#[108,111,119,101,114]⟩,.string ⟨#[117,114,108]⟩,.string ⟨#[104,101,120]⟩,.string ⟨#[98,97,115,101]⟩,.string ⟨#[104,116,109,108]⟩,.string ⟨#[112,97,116,104]⟩,.string ⟨#[115,113,117,101,101,122,101]⟩,.string ⟨#[110,111,110,117,108,108]⟩,.string ⟨#[116,114,105,109]⟩,.string ⟨#[108,101,110,103,116,104]⟩,.string ⟨#[99,109,100]⟩]) (.int .i64 5)).run Tryz.prog w= .ok (.string ⟨#[104,116,109,108]⟩) w:=λ _=>by kernel_rfl
   go_enter Tryz.func84,Tryz.ntmps84;go_wp2_with fail;go_ret;exact⟨rfl,rfl⟩
 . have ix:∀ w,(Instr.index 98 (.agg #[.string ⟨#[]⟩,.string ⟨#[108,111,119,101,114]⟩,.string ⟨#[117,114,108]⟩,.string ⟨#[104,101,120]⟩,.string ⟨#[98,97,115,101]⟩,.string ⟨#[104,116,109,108]⟩,.string ⟨#[112,97,116,104]⟩,.string ⟨#[115,113,117,101,101,122,101]⟩,.string ⟨#[110,111,110,117,108,108]⟩,.string ⟨#[116,114,105,109]⟩,.string ⟨#[108,101,110,103,116,104]⟩,.string ⟨#[99,109,100]⟩]) (.int .i64 6)).run Tryz.prog w= .ok (.string ⟨#[112,97,116,104]⟩) w:=λ _=>by kernel_rfl
   go_enter Tryz.func84,Tryz.ntmps84;go_wp2_with fail;go_ret;exact⟨rfl,rfl⟩
 . have ix:∀ w,(Instr.index 98 (.agg #[.string ⟨#[]⟩,.string ⟨#[108,111,119,101,114]⟩,.string ⟨#[117,114,108]⟩,.string ⟨#[104,101,120]⟩,.string ⟨#[98,97,115,101]⟩,.string ⟨#[104,116,109,108]⟩,.string ⟨#[112,97,116,104]⟩,.string ⟨#[115,113,117,101,101,122,101]⟩,.string ⟨#[110,111,110,117,108,108]⟩,.string ⟨#[116,114,105,109]⟩,.string ⟨#[108,101,110,103,116,104]⟩,.string ⟨#[99,109,100]⟩]) (.int .i64 7)).run Tryz.prog w= .ok (.string ⟨#[115,113,117,101,101,122,101]⟩) w:=λ _=>by kernel_rfl
   go_enter Tryz.func84,Tryz.ntmps84;go_wp2_with fail;go_ret;exact⟨rfl,rfl⟩
 . have ix:∀ w,(Instr.index 98 (.agg #[.string ⟨#[]⟩,.string ⟨#[108,111,119,101,114]⟩,.string ⟨#[117,114,108]⟩,.string ⟨#[104,101,120]⟩,.string ⟨#[98,97,115,101]⟩,.string ⟨#[104,116,109,108]⟩,.string ⟨#[112,97,116,104]⟩,.string ⟨#[115,113,117,101,101,122,101]⟩,.string ⟨#[110,111,110,117,108,108]⟩,.string ⟨#[116,114,105,109]⟩,.string ⟨#[108,101,110,103,116,104]⟩,.string ⟨#[99,109,100]⟩]) (.int .i64 8)).run Tryz.prog w= .ok (.string ⟨#[110,111,110,117,108,108]⟩) w:=λ _=>by kernel_rfl
   go_enter Tryz.func84,Tryz.ntmps84;go_wp2_with fail;go_ret;exact⟨rfl,rfl⟩
 . have ix:∀ w,(Instr.index 98 (.agg #[.string ⟨#[]⟩,.string ⟨#[108,111,119,101,114]⟩,.string ⟨#[117,114,108]⟩,.string ⟨#[104,101,120]⟩,.string ⟨#[98,97,115,101]⟩,.string ⟨#[104,116,109,108]⟩,.string ⟨#[112,97,116,104]⟩,.string ⟨#[115,113,117,101,101,122,101]⟩,.string ⟨#[110,111,110,117,108,108]⟩,.string ⟨#[116,114,105,109]⟩,.string ⟨#[108,101,110,103,116,104]⟩,.string ⟨#[99,109,100]⟩]) (.int .i64 9)).run Tryz.prog w= .ok (.string ⟨#[116,114,105,109]⟩) w:=λ _=>by kernel_rfl
   go_enter Tryz.func84,Tryz.ntmps84;go_wp2_with fail;go_ret;exact⟨rfl,rfl⟩
 . have ix:∀ w,(Instr.index 98 (.agg #[.string ⟨#[]⟩,.string ⟨#[108,111,119,101,114]⟩,.string ⟨#[117,114,108]⟩,.string ⟨#[104,101,120]⟩,.string ⟨#[98,97,115,101]⟩,.string ⟨#[104,116,109,108]⟩,.string ⟨#[112,97,116,104]⟩,.string ⟨#[115,113,117,101,101,122,101]⟩,.string ⟨#[110,111,110,117,108,108]⟩,.string ⟨#[116,114,105,109]⟩,.string ⟨#[108,101,110,103,116,104]⟩,.string ⟨#[99,109,100]⟩]) (.int .i64 10)).run Tryz.prog w= .ok (.string ⟨#[108,101,110,103,116,104]⟩) w:=λ _=>by kernel_rfl
   go_enter Tryz.func84,Tryz.ntmps84;go_wp2_with fail;go_ret;exact⟨rfl,rfl⟩
 . have ix:∀ w,(Instr.index 98 (.agg #[.string ⟨#[]⟩,.string ⟨#[108,111,119,101,114]⟩,.string ⟨#[117,114,108]⟩,.string ⟨#[104,101,120]⟩,.string ⟨#[98,97,115,101]⟩,.string ⟨#[104,116,109,108]⟩,.string ⟨#[112,97,116,104]⟩,.string ⟨#[115,113,117,101,101,122,101]⟩,.string ⟨#[110,111,110,117,108,108]⟩,.string ⟨#[116,114,105,109]⟩,.string ⟨#[108,101,110,103,116,104]⟩,.string ⟨#[99,109,100]⟩]) (.int .i64 11)).run Tryz.prog w= .ok (.string ⟨#[99,109,100]⟩) w:=λ _=>by kernel_rfl
   go_enter Tryz.func84,Tryz.ntmps84;go_wp2_with fail;go_ret;exact⟨rfl,rfl⟩

section
variable (zs:List Int) (A:Option Addr) (c:Nat) (w:World)
def PW (w:World):Prop:=3<w.heap.size/\∀ k,k<12->w.cell? ⟨3,k,none⟩=some (.string (pwB k))
theorem PW.below {w w':World} (h:PW w) (hb:Below w.heap.size w w'):PW w':=⟨Nat.lt_of_lt_of_le h.1 hb.size,λ k hk=>(hb.cell (p:=⟨3,k,none⟩) h.1).trans (h.2 k hk)⟩
end
theorem XG6:(Tryz.prog.info? 3).map (λ i=>(i.zero,i.size,i.bytes))=some (some (.int .i64 0),1,8):=by kernel_rfl
def iv (n:Int):Value:= .int .i64 n
def OI (w:World) (B:Nat) (v:Value) (l:List Int):Prop:=w.ownsRow B 3 1 v l.length (l.map iv)
theorem OI.nil (w:World) (B:Nat):OI w B (.slice none 0 0) []:=World.ownsRow_nil _ _ _ _
theorem OI.drew {w:World} {B:Nat} {v:Value} {l:List Int} (h:OI w B v l):OI w.drew B v l:=h
theorem OI.drewN {w:World} {B:Nat} {v:Value} {l:List Int} (h:OI w B v l) (n:Nat):OI (w.drewN n) B v l:=h
theorem OI.alloc {w:World} {B:Nat} {v:Value} {l:List Int} (h:OI w B v l) (o:Obj):OI (w.alloc o) B v l:=World.ownsRow.alloc h o
theorem OI.kept {w w':World} {B:Nat} {v:Value} {l:List Int} (h:OI w B v l) (hb:Below w.heap.size w w'):OI w' B v l:=by
 refine World.ownsRow.kept (row:=none) h ⟨hb.os,hb.tape,hb.output,hb.size,λ k hk _=>hb.block k hk⟩ ?_;cases v.ownBlock<;>simp
theorem OI.form {w:World} {B:Nat} {v:Value} {l:List Int} (h:OI w B v l):∃ A c,v= .slice A l.length c:=by
 rcases h.2 with⟨rfl,hn⟩|⟨g,cap,cur,rfl,_⟩
 . exact⟨none,0,by rw [hn]⟩
 . exact⟨_,_,rfl⟩
section
variable {w:World} {B:Nat} {v:Value} {l:List Int}
theorem ZA3 (h:OI w B v l) (vals:List Value) (ns:List Int) (hv:vals=ns.map iv) (hlen:l.length+ns.length<=17592186044000) (hB:B<=w.heap.size) (ty:TypeId):
 ∃ v' w',(Builtin.append_ #[41,41] ty #[v,.slice (some ⟨w.heap.size,0,none⟩) vals.length vals.length]).run Tryz.prog (w.alloc (.cells vals.toArray 3))= .ok v' w'/\
  OI w' B v' (l++ns)/\Below B w w':=by
 obtain⟨i0,hi,hz0,hz1,hz2⟩:=info_parts XG6;have hvl:vals.length=ns.length:=by rw [hv];simp
 obtain⟨v',w',h0,h1,h2,_⟩:=run_append_own (P:=Tryz.prog) (w.alloc (.cells vals.toArray 3)) B 41 ty 3 i0 (.int .i64 0) 1 8 Tryz.underlying41 hi hz0 hz1 hz2 rfl (by decide) v l.length (l.map iv) (h.alloc _)
  ⟨w.heap.size,0,none⟩ vals.length vals.length vals (by simp) (by
   intro j u hu;have hadd:(⟨w.heap.size,0,none⟩:Addr).add j=⟨w.heap.size,j,none⟩:=(by unfold Addr.add;split<;>simp_all);rw [hadd,(Blk.new w 3 vals.toArray).cell j]
   simpa using hu) (by
   intro u hu;rw [hv] at hu;obtain⟨b,_,rfl⟩:=List.mem_map.1 hu;rfl) (by unfold maxLen;omega) (by omega) (by simp;omega)
 refine⟨v',w',h0,?_,?_⟩
 . unfold OI;rw [List.length_append,List.map_append,<-hv,<-hvl];exact h1
 . have hb:Below B w (w.alloc (.cells vals.toArray 3)):=(Below.refl _ _).alloc hB _;exact hb.grown h2 (by simp;omega) (λ k hk=>(World.ownsRow.lt h k hk).1)
theorem jI1 {o:Oper} {a:Act} {K:Act->World->Prop} {Q:Exit->Act->World->Prop} (s x:Operand)
 (ho:o.op= .call {callee:= .builtin .append,args:=#[s,x],argTypes:=#[41,41]})
 (h:OI w B v l) (hs:a.eval s=v) (vals:List Value) (ns:List Int) (hv:vals=ns.map iv)
 (hx:a.eval x= .slice (some ⟨w.heap.size,0,none⟩) vals.length vals.length) (hlen:l.length+ns.length<=17592186044000) (hB:B<=w.heap.size)
 (hK:∀ v' w',OI w' B v' (l++ns)->Below B w w'->K (a.put o.dst v') w'):o.wp Tryz.prog a (w.alloc (.cells vals.toArray 3)) K Q:=by
 obtain⟨v',w',hrun,h2,h3⟩:=ZA3 h vals ns hv hlen hB o.type;unfold Oper.wp execOp;simp only [ho,resolve,invoke,builtin,Sem.run_bind,Sem.run_pure,Result.andThen_ok,List.map_toArray,List.map_cons,List.map_nil,hs,hx,hrun];exact hK v' w' h2 h3
theorem Qy1 {ops:Array Oper} {rest:List Oper} {o:Oper} {a:Act} {Q:Exit->Act->World->Prop} (hgd:o.guard=none) (s x:Operand)
 (ho:o.op= .call {callee:= .builtin .append,args:=#[s,x],argTypes:=#[41,41]})
 (h:OI w B v l) (hs:a.eval s=v) (vals:List Value) (ns:List Int) (hv:vals=ns.map iv)
 (hx:a.eval x= .slice (some ⟨w.heap.size,0,none⟩) vals.length vals.length) (hlen:l.length+ns.length<=17592186044000) (hB:B<=w.heap.size)
 (hK:∀ v' w',OI w' B v' (l++ns)->Below B w w'->wpList Tryz.prog ops Q rest (a.put o.dst v') w'):
 wpList Tryz.prog ops Q (o::rest) a (w.alloc (.cells vals.toArray 3)):=
 wpList_plain hgd λ _ hK'=>jI1 s x ho h hs vals ns hv hx hlen hB λ v' w' h2 h3=>hK' _ _ (hK v' w' h2 h3)
end
def plF (w:ByteArray):Nat->Nat->Nat
 |0,k=>k
 |n+1,k=>if pwB k=w then k else plF w n (k+1)
structure IsPl (w:ByteArray) (k:Nat):Prop where
 lo:1<=k
 hi:k<=12
 no:∀ j,1<=j->j<k->pwB j≠w
 yes:k<=11->pwB k=w
theorem IsPl.same {w:ByteArray} {k k':Nat} (h:IsPl w k) (h':IsPl w k'):k=k':=by
 rcases Nat.lt_trichotomy k k' with e|e|e
 . exact absurd (h.yes (by have:=h'.hi;omega)) (h'.no k h.lo e)
 . exact e
 . exact absurd (h'.yes (by have:=h.hi;omega)) (h.no k' h'.lo e)
theorem jU7 (w:ByteArray):∀ n k,k+n=12->1<=k->(∀ j,1<=j->j<k->pwB j≠w)->IsPl w (plF w n k)
 |0,k,h,h1,h2=>⟨h1,by unfold plF;omega,h2,λ h3=>(by unfold plF at h3;omega)⟩
 |n+1,k,h,h1,h2=>by
  unfold plF;by_cases e:pwB k=w
  . rw [if_pos e];exact⟨h1,by omega,h2,λ _=>e⟩
  . rw [if_neg e]
    exact jU7 w n (k+1) (by omega) (by omega) λ j j1 j2=>by
     by_cases ej:j=k
     . subst ej;exact e
     . exact h2 j j1 (by omega)
def plK (w:ByteArray):Nat:=plF w 11 1
theorem KM9 (w:ByteArray):IsPl w (plK w):=jU7 w 11 1 rfl (Nat.le_refl _) λ j h1 h2=>absurd h2 (by omega)
theorem yq3 {a b:ByteArray} (h:a=b):(a.toList==b.toList)=true:=by rw [h];exact beq_self_eq_true _
theorem yL3 {a b:ByteArray} (h:¬a=b):(a.toList==b.toList)=false:=by
 rw [beq_eq_false_iff_ne];intro e;rw [Lib.toList_data,Lib.toList_data] at e;exact h (zH9 e)
def plI (w:ByteArray):Int:=if plK w<=11 then (plK w:Int) else 0
section
variable (x:ByteArray) (w:World)
set_option maxHeartbeats 2000000 in
theorem Kr9 (hP:PW w):
 Calls Tryz.prog 52 #[.string x,.slice (some ⟨3,0,none⟩) 12 12] w λ e w'=>e= .returned (.int .i64 (plI x))/\w=w':=by
 have HP:=qh hP;have HK:=qh (KM9 x);clear hP;go_enter Tryz.func52,Tryz.ntmps52;go_wp2_with fail;go_loop [5] (λ u=>∃ k:Nat,u= .int .i64 (k:Int)/\1<=k/\k<=12/\Hid (∀ j,1<=j->j<k->pwB j≠x)) (λ u=>12-(intOf u).toNat)
 case atStart=>exact⟨1,rfl,by omega,by omega,λ j h1 h2=>absurd h2 (by omega)⟩
 case round=>
  obtain⟨k,rfl,hk1,hk,HA⟩:=hrel;by_cases hlk:k<12
  . have k1:(k:Int)<12:=(by omega);have k2:(0:Int)<=(k:Int):=(by omega);have y0:=HP.out.2 k hlk;by_cases he:pwB k=x
    . have h1:=yq3 he
      have HE:Hid (plI x=(k:Int)):=by
       have e:plK x=k:=HK.out.same ⟨hk1,by omega,HA.out,λ _=>he⟩;show _=_;unfold plI;rw [e,if_pos (by omega)]
      clear he;go_wp2_with fail;go_ret;exact⟨by rw [HE.out];rfl,rfl⟩
    . have h1:=yL3 he
      have HA2:Hid (∀ j,1<=j->j<k+1->pwB j≠x):=λ j j1 j2=>by
       by_cases ej:j=k
       . subst ej;exact he
       . exact HA.out j j1 (by omega)
      clear he;go_wp2_with fail;go_round
      case rel=>exact⟨k+1,by go_num,by omega,by omega,HA2⟩
      case measure=>simp [intOf];omega
  . obtain rfl:k=12:=by omega
    have HE:Hid (plI x=0):=by
     have e:plK x=12:=HK.out.same ⟨by omega,by omega,HA.out,λ h=>absurd h (by omega)⟩;show _=_;unfold plI;rw [e];rfl
    clear hlk;go_wp2_with fail;go_ret;exact⟨by rw [HE.out];rfl,rfl⟩
end
theorem OI.low {w:World} {B B':Nat} {v:Value} {l:List Int} (h:OI w B v l) (hB:B'<=B):OI w B' v l:=by
 refine⟨h.1,?_⟩;rcases h.2 with h2|⟨g,cap,cur,e1,e2,e3⟩
 . exact .inl h2
 . exact .inr ⟨g,cap,cur,e1,by omega,e3⟩
def rpE (s:ByteArray):Int:=if s=⟨#[45]⟩ then 0 else if 8<(pcs s ⟨#[44]⟩).length then 2 else if ∀ x∈pcs s ⟨#[44]⟩,plK x<=11 then 0 else 3
def rpL (s:ByteArray):List Int:=if s=⟨#[45]⟩ then [] else if rpE s=0 then (pcs s ⟨#[44]⟩).map λ x=>(plK x:Int) else []
def PRes (s:ByteArray) (w:World) (e:Ending) (w':World):Prop:=∃ v,e= .returned (.tuple #[v,.int .i64 (rpE s)])/\OI w' w.heap.size v (rpL s)/\Below w.heap.size w w'
theorem yb3 {s:ByteArray} (h:s=⟨#[45]⟩):(s.toList== [45])=true:=by rw [h,Lib.toList_data];rfl
theorem y40 {s:ByteArray} (h:¬s=⟨#[45]⟩):(s.toList== [45])=false:=by
 rw [beq_eq_false_iff_ne];intro e;rw [Lib.toList_data] at e;exact h (zH9 e)
section
variable (s:ByteArray) (m:Int) (w:World)
theorem qN3 (h:s=⟨#[45]⟩):rpE s=0/\rpL s= []:=by unfold rpL rpE;rw [if_pos h,if_pos h];exact⟨rfl,rfl⟩
theorem QN7 (h:¬s=⟨#[45]⟩) (h2:8<(pcs s ⟨#[44]⟩).length):rpE s=2/\rpL s= []:=by
 have e:rpE s=2:=by unfold rpE;rw [if_neg h,if_pos h2]
 unfold rpL;rw [if_neg h,e,if_neg (by decide)];exact⟨rfl,rfl⟩
theorem Xz5 (h:¬s=⟨#[45]⟩) (h2:¬8<(pcs s ⟨#[44]⟩).length) {x:ByteArray} (hx:x∈pcs s ⟨#[44]⟩) (hb:¬plK x<=11):rpE s=3/\rpL s= []:=by
 have e:rpE s=3:=by unfold rpE;rw [if_neg h,if_neg h2,if_neg λ k=>hb (k x hx)]
 unfold rpL;rw [if_neg h,e,if_neg (by decide)];exact⟨rfl,rfl⟩
theorem Z32 (h:¬s=⟨#[45]⟩) (h2:¬8<(pcs s ⟨#[44]⟩).length) (ha:∀ x∈pcs s ⟨#[44]⟩,plK x<=11):rpE s=0/\rpL s=(pcs s ⟨#[44]⟩).map λ x=>(plK x:Int):=by
 have e:rpE s=0:=by unfold rpE;rw [if_neg h,if_neg h2,if_pos ha]
 unfold rpL;rw [if_neg h,e,if_pos rfl];exact⟨rfl,rfl⟩
def plL (L:List ByteArray):List Int:=L.map λ x=>(plK x:Int)
theorem z23 {L:List ByteArray} {k:Nat} (h:k<L.length):plL (L.take (k+1))=plL (L.take k)++ [(plK L[k]:Int)]:=by
 unfold plL;rw [List.take_succ_eq_append_getElem h,List.map_append];rfl
theorem kA2 (L:List ByteArray):(plL L).length=L.length:=by unfold plL;rw [List.length_map]
set_option maxHeartbeats 4000000 in
theorem xq0 (hs:s.size<=1048576) (hm:w.cell? ⟨4,0,none⟩=some (.int .i64 m)):
 Calls Tryz.prog 48 #[.string s] w (PRes s w):=by
 by_cases h1:s=⟨#[45]⟩
 . have HE:=qh (qN3 s h1);have e1:=yb3 h1;clear h1 hm;go_enter Tryz.func48,Tryz.ntmps48;go_wp2_with fail;go_ret2;exact⟨.slice none 0 0,by rw [HE.out.1];rfl,by rw [HE.out.2];exact OI.nil _ _,Below.refl _ _⟩
 . have e1:=y40 h1;have CS:=qh (qQ5 s ⟨#[44]⟩ m w hs hm (by decide));have HN:=qh h1;obtain⟨L,hL⟩:∃ L,L=pcs s ⟨#[44]⟩:=⟨_,rfl⟩;have hL0:0<L.length:=(by rw [hL];exact Qw2 _ _ (by decide));have hL1:L.length<=1048577:=(by rw [hL];have:=jy8 (s:=s) (t:=⟨#[44]⟩) (by decide);omega);rw [<-hL] at CS;have HL:=qh hL;clear hL h1 hm;by_cases h8:8<L.length
   . have d1:(8:Int)<(L.length:Int):=(by omega);have HE:=qh (QN7 s HN.out (by rw [<-HL.out];exact h8));go_enter Tryz.func48,Tryz.ntmps48;go_wp2_with fail;refine CS.out.mono ?_;rintro e w1 ⟨rfl,ho,b1⟩;have HB1:=qh b1;clear ho b1 CS;go_wp2_with fail;go_ret2;exact⟨.slice none 0 0,by rw [HE.out.1];rfl,by rw [HE.out.2];exact OI.nil _ _,HB1.out⟩
   . have d1:¬(8:Int)<(L.length:Int):=(by omega);go_enter Tryz.func48,Tryz.ntmps48;go_wp2_with fail;refine CS.out.mono ?_;rintro e w1 ⟨rfl,ho,b1⟩;obtain⟨g,eg,hg,hgl,_,hcell⟩:=ho.at_ hL0;injection eg with eg;injection eg with eg;subst eg;have HO1:=qh ho;have HB1:=qh b1;have hz1:=b1.size;clear ho b1 CS hcell;go_wp2_with fail;go_loopw [5,18] (λ v u wr=>∃ k:Nat,u= .int .i64 (k:Int)/\k<=L.length/\OI wr w1.heap.size v (plL (L.take k))/\Below w1.heap.size w1 wr/\Hid (∀ x∈L.take k,plK x<=11)) (λ _ u _=>L.length-(intOf u).toNat)
     case atStart=>exact⟨0,rfl,by omega,OI.nil _ _,Below.refl _ _,λ x hx=>absurd hx (by simp)⟩
     case round=>
      obtain⟨k,rfl,hk,ho,hb,HA⟩:=hrel;have hsz:=hb.size;have HO:=qh ho;have HB:=qh hb;by_cases hlk:k<L.length
      . have k1:(k:Int)<(L.length:Int):=(by omega);obtain⟨x,hx⟩:∃ x,x=L[k]:=⟨_,rfl⟩;obtain⟨g',eg,_,_,_,hcell⟩:=(HO1.out.kept hb).at_ hL0;injection eg with eg;injection eg with eg;subst eg;have y0:wr.cell? ⟨w.heap.size,k,none⟩=some (.string x):=(by rw [hx];exact hcell k hlk);have HT:Hid (L.take (k+1)=L.take k++ [x]):=(by show _=_;rw [List.take_succ_eq_append_getElem hlk,hx]);have HX:Hid (x∈pcs s ⟨#[44]⟩):=(by show _∈_;rw [<-HL.out,hx];exact List.getElem_mem _);have HP2:Hid (plL (L.take (k+1))=plL (L.take k)++ [(plK x:Int)]):=(by show _=_;rw [z23 hlk,hx]);have hpl:(plL (L.take k)).length<=8:=(by rw [kA2,List.length_take];omega);have HK:=qh (KM9 x);clear ho hb hcell hx;go_wp2_with fail;obtain⟨wm,rfl⟩:∃ wm:World,wm=wr:=⟨_,rfl⟩;go_loop [8] (λ u=>∃ j:Nat,u= .int .i64 (j:Int)/\1<=j/\j<=12/\Hid (∀ i,1<=i->i<j->pwB i≠x)) (λ u=>12-(intOf u).toNat)
        case atStart=>exact⟨1,rfl,by omega,by omega,λ j h1 h2=>absurd h2 (by omega)⟩
        case round=>
         obtain⟨j,rfl,hj1,hj,HJ⟩:=hrel;by_cases hlj:j<12
         . have j1:(j:Int)<=11:=(by omega);have CW:=qh λ w'=>JP4 j hlj w'
           by_cases he:pwB j=x
           . have q1:=yq3 he;have HE:Hid (plK x=j):=HK.out.same ⟨hj1,by omega,HJ.out,λ _=>he⟩
             have HA2:Hid (∀ y∈L.take (k+1),plK y<=11):=λ y hy=>by
              rw [HT.out,List.mem_append,List.mem_singleton] at hy;rcases hy with hy|rfl
              . exact HA.out y hy
              . rw [HE.out];omega
             clear he;go_wp2_with fail;refine(CW.out _).mono ?_;rintro e w' ⟨rfl,rfl⟩;go_wp2_with (at_builtin;refine Qy1 rfl (.tmp 34) (.tmp 36) rfl HO.out rfl _ [(j:Int)] rfl rfl (by rw [List.length_singleton];omega) hsz ?_;intro v' w2 ho2 hb2;have HO2:=qh ho2;have HB2:=qh hb2;clear ho2 hb2);go_roundw
             case rel=>exact⟨k+1,by go_num,by omega,by rw [HP2.out,HE.out];exact HO2.out,HB.out.trans HB2.out,HA2⟩
             case measure=>simp [intOf];omega
           . have q1:=yL3 he
             have HJ2:Hid (∀ i,1<=i->i<j+1->pwB i≠x):=λ i i1 i2=>by
              by_cases ei:i=j
              . subst ei;exact he
              . exact HJ.out i i1 (by omega)
             clear he;go_wp2_with fail;refine(CW.out _).mono ?_;rintro e w' ⟨rfl,rfl⟩;go_wp2_with fail;go_round
             case rel=>exact⟨j+1,by go_num,by omega,by omega,HJ2⟩
             case measure=>simp [intOf];omega
         . obtain rfl:j=12:=(by omega);have e12:plK x=12:=HK.out.same ⟨by omega,by omega,HJ.out,λ h=>absurd h (by omega)⟩;have HE:=qh (Xz5 s HN.out (by rw [<-HL.out];exact h8) HX.out (by rw [e12];omega));clear hlj e12;go_wp2_with fail;go_ret2;exact⟨.slice none 0 0,by rw [HE.out.1];rfl,by rw [HE.out.2];exact OI.nil _ _,HB1.out.trans (HB.out.mono hz1)⟩
      . obtain rfl:k=L.length:=(by omega);rw [List.take_length] at HO HA;have HE:=qh (Z32 s HN.out (by rw [<-HL.out];exact h8) (by rw [<-HL.out];exact HA.out));obtain⟨A',c',rfl⟩:=HO.out.form;clear ho hb hlk;go_wp2_with fail;go_ret2;exact⟨.slice A' (plL L).length c',by rw [HE.out.1];rfl,by rw [HE.out.2,<-HL.out];exact OI.low HO.out hz1,HB1.out.trans (HB.out.mono hz1)⟩
set_option maxHeartbeats 4000000 in
theorem kB9 (hs:s.size<=1048576) (hP:PW w):
 Calls Tryz.prog 54 #[.string s] w (PRes s w):=by
 by_cases h1:s=⟨#[45]⟩
 . have HE:=qh (qN3 s h1);have e1:=yb3 h1;clear h1 hP;go_enter Tryz.func54,Tryz.ntmps54;go_wp2_with fail;go_ret2;exact⟨.slice none 0 0,by rw [HE.out.1];rfl,by rw [HE.out.2];exact OI.nil _ _,Below.refl _ _⟩
 . have e1:=y40 h1;have CS:=qh (Z13 s ⟨#[44]⟩ w hs (by decide) (by decide));have HN:=qh h1;have HP:=qh hP;obtain⟨L,hL⟩:∃ L,L=pcs s ⟨#[44]⟩:=⟨_,rfl⟩;have hL0:0<L.length:=(by rw [hL];exact Qw2 _ _ (by decide));have hL1:L.length<=1048577:=(by rw [hL];have:=jy8 (s:=s) (t:=⟨#[44]⟩) (by decide);omega);rw [<-hL] at CS;have HL:=qh hL;clear hL h1 hP;by_cases h8:8<L.length
   . have d1:(8:Int)<(L.length:Int):=(by omega);have HE:=qh (QN7 s HN.out (by rw [<-HL.out];exact h8));go_enter Tryz.func54,Tryz.ntmps54;go_wp2_with fail;refine CS.out.mono ?_;rintro e w1 ⟨v,rfl,ho,b1⟩;obtain⟨A,c,rfl⟩:=ho.form;have HB1:=qh b1;clear ho b1 CS;go_wp2_with fail;go_ret2;exact⟨.slice none 0 0,by rw [HE.out.1];rfl,by rw [HE.out.2];exact OI.nil _ _,HB1.out⟩
   . have d1:¬(8:Int)<(L.length:Int):=(by omega);go_enter Tryz.func54,Tryz.ntmps54;go_wp2_with fail;refine CS.out.mono ?_;rintro e w1 ⟨v,rfl,ho,b1⟩;obtain⟨A,c,rfl⟩:=ho.form;obtain⟨g,rfl,hg,hgl,_,hcell⟩:=ho.at_ hL0;have HO1:=qh ho;have HB1:=qh b1;have hz1:=b1.size;clear ho b1 CS hcell;go_wp2_with fail;go_loopw [5,6] (λ v u wr=>∃ k:Nat,u= .int .i64 (k:Int)/\k<=L.length/\OI wr w1.heap.size v (plL (L.take k))/\Below w1.heap.size w1 wr/\Hid (∀ x∈L.take k,plK x<=11)) (λ _ u _=>L.length-(intOf u).toNat)
     case atStart=>exact⟨0,rfl,by omega,OI.nil _ _,Below.refl _ _,λ x hx=>absurd hx (by simp)⟩
     case round=>
      obtain⟨k,rfl,hk,ho,hb,HA⟩:=hrel;have hsz:=hb.size;have HO:=qh ho;have HB:=qh hb;by_cases hlk:k<L.length
      . have k1:(k:Int)<(L.length:Int):=(by omega);have k2:(0:Int)<=(k:Int):=(by omega);obtain⟨x,hx⟩:∃ x,x=L[k]:=⟨_,rfl⟩;obtain⟨g',eg,_,_,_,hcell⟩:=(HO1.out.kept hb).at_ hL0;injection eg with eg;injection eg with eg;subst eg;have y0:wr.cell? ⟨g,k,none⟩=some (.string x):=(by rw [hx];exact hcell k hlk);have HT:Hid (L.take (k+1)=L.take k++ [x]):=(by show _=_;rw [List.take_succ_eq_append_getElem hlk,hx]);have HX:Hid (x∈pcs s ⟨#[44]⟩):=(by show _∈_;rw [<-HL.out,hx];exact List.getElem_mem _);have HP2:Hid (plL (L.take (k+1))=plL (L.take k)++ [(plK x:Int)]):=(by show _=_;rw [z23 hlk,hx]);have hpl:(plL (L.take k)).length<=8:=(by rw [kA2,List.length_take];omega);have HK:=qh (KM9 x);have hPr:PW wr:=HP.out.below (HB1.out.trans (hb.mono hz1));have CPl:=qh λ q=>Kr9 x (wr.drewN q) ⟨hPr.1,hPr.2⟩
        have HI:Hid (plI x=if plK x<=11 then (plK x:Int) else 0):=rfl;obtain⟨p,hp⟩:∃ p,p=plI x:=⟨_,rfl⟩;rw [<-hp] at CPl HI;clear ho hb hcell hx hPr hp;go_wp2_with fail;go_quiet ((go_at_call 52;exact K97 (CPl.out _)))
        by_cases h11:plK x<=11
        . have hp2:p=(plK x:Int):=(by have:=HI.out;rwa [if_pos h11] at this);have hpk:(p==0)=false:=(by rw [beq_eq_false_iff_ne,hp2];have:=HK.out.lo;omega);have HPp:=qh hp2
          have HA2:Hid (∀ y∈L.take (k+1),plK y<=11):=λ y hy=>by
           rw [HT.out,List.mem_append,List.mem_singleton] at hy;rcases hy with hy|rfl
           . exact HA.out y hy
           . exact h11
          clear hp2 h11;go_wp2_with (at_builtin;refine Qy1 rfl (.tmp 29) (.tmp 31) rfl (HO.out.drewN _) rfl _ [p] rfl rfl (by rw [List.length_singleton];omega) hsz ?_;intro v' w2 ho2 hb2;have HO2:=qh ho2;have HB2:=qh hb2;clear ho2 hb2);go_roundw
          case rel=>exact⟨k+1,by go_num,by omega,by rw [HP2.out,<-HPp.out];exact HO2.out,(below_drewN HB.out _).trans HB2.out,HA2⟩
          case measure=>simp [intOf];omega
        . have hp2:p=0:=(by have:=HI.out;rwa [if_neg h11] at this);subst hp2;have HE:=qh (Xz5 s HN.out (by rw [<-HL.out];exact h8) HX.out h11);clear h11;go_wp2_with fail;go_ret2;exact⟨.slice none 0 0,by rw [HE.out.1];rfl,by rw [HE.out.2];exact OI.nil _ _,HB1.out.trans ((below_drewN HB.out _).mono hz1)⟩
      . obtain rfl:k=L.length:=(by omega);rw [List.take_length] at HO HA;have HE:=qh (Z32 s HN.out (by rw [<-HL.out];exact h8) (by rw [<-HL.out];exact HA.out));obtain⟨A',c',rfl⟩:=HO.out.form;clear ho hb hlk;go_wp2_with fail;go_ret2;exact⟨.slice A' (plL L).length c',by rw [HE.out.1];rfl,by rw [HE.out.2,<-HL.out];exact OI.low HO.out hz1,HB1.out.trans (HB.out.mono hz1)⟩
end
end Go.Proofs.YtngepacmgabmaaaGreatDoor
