/- Walk: (*phrase.maker).fail. -/
import Derived.Test.YtmkaghpnihlhcaaEdg
import Derived.Test.YtmkaghpnihlhcaaTrC
import Derived.WalkKit
import Derived.WalkSpells
import Derived.WalkLawsBesides
import Derived.Lib.Hide
import Derived.Deep.QuietTactic
import Derived.BigQuiet
import Derived.Deep.RegionLaw
import Derived.Deep.CutBlock
namespace Go.Proofs.Ytmkaghpnihlhcaa
open Go.RowKit
set_option linter.unusedVariables false
set_option linter.unusedSimpArgs false
theorem wf_n {n:Nat} (h:n<9223372036854775808):(Lit.int .i64 (n:Int)).wf=true:=by
 simp [Lit.wf,IntKind.min,IntKind.max,IntKind.bits,IntKind.signed];omega
theorem wf_b {n:Nat} (h:n<256):(Lit.int .u8 (n:Int)).wf=true:=by
 simp [Lit.wf,IntKind.min,IntKind.max,IntKind.bits,IntKind.signed];omega
section
variable {w w':World} {g n:Nat} {F:Int→Int→Option Nat}
theorem EdgeM.drewN (h:EdgeM w g n F) (k:Nat):EdgeM (w.drewN k) g n F:=h
theorem EdgeM.look_run (h:EdgeM w g n F) (u b:Int) (hu:(Lit.int .i64 u).wf=true) (hb:(Lit.int .u8 b).wf=true):(Instr.lookup 34 (.map (some g)) (edgeV u b) true).run Try.prog w= .ok (.tuple #[.int .i64 (((F u b).getD 0:Nat):Int),.bool (F u b).isSome]) w:=by
 obtain⟨D,h1,h2⟩:=h
 obtain⟨e1,e2⟩:=h2 u b hu hb
 obtain⟨v,ps,hrun,hv⟩:=h1.look_ok edgeLaw Try.underlying34 (edgeZero w) (plainElem_int Try.underlying3 (by decide)) (edge_key u b hu hb)
 obtain⟨c,rfl,hc,_⟩:=plainElem_int_inv Try.underlying3 hv
 have hc:=congrArg Prod.fst hc
 dsimp only at hc
 rw [e2] at hc
 simp only [DataW.lit.injEq,Lit.int.injEq,true_and] at hc
 rw [hrun,e1,hc]
theorem EdgeM.get_run (h:EdgeM w g n F) (u b:Int) (hu:(Lit.int .i64 u).wf=true) (hb:(Lit.int .u8 b).wf=true):(Instr.lookup 34 (.map (some g)) (edgeV u b) false).run Try.prog w= .ok (.int .i64 (((F u b).getD 0:Nat):Int)) w:=by
 obtain⟨D,h1,h2⟩:=h
 obtain⟨e1,e2⟩:=h2 u b hu hb
 obtain⟨c,hrun,hat,_⟩:=h1.lookup_int edgeLaw Try.underlying34 Try.underlying3 (edgeZero w) (edge_key u b hu hb)
 rw [e2] at hat
 simp only [DataW.lit.injEq,Lit.int.injEq,true_and] at hat
 rw [hrun,hat]
theorem EdgeM.put_run (h:EdgeM w g n F) (hn:n<maxLen) (u b:Int) (k:Nat) (hu:(Lit.int .i64 u).wf=true) (hb:(Lit.int .u8 b).wf=true) (hk:(Lit.int .i64 (k:Int)).wf=true):
 ∃ w',(Instr.mapUpdate 34 (.map (some g)) (edgeV u b) (.int .i64 (k:Int))).run Try.prog w= .ok () w'∧EdgeM w' g (n+1) (putF F u b k)∧w.grownBy w' (some g):=by
 obtain⟨D,h1,h2⟩:=h
 obtain⟨w',hrun,h3,h4⟩:=h1.update edgeLaw Try.underlying34 hn (edge_key u b hu hb) (plainElem_int Try.underlying3 hk)
 refine⟨w',hrun,⟨_,h3,fun u' b' hu' hb'=> ?_⟩,h4⟩
 have hkl:WideAt.IsKeyLit (edgeL u b):=trivial
 by_cases he:u'=u∧b'=b
 · obtain⟨rfl,rfl⟩:=he
   unfold putF
   rw [if_pos ⟨rfl,rfl⟩]
   exact⟨Maps.has_put_same h1.isMap hkl _,Maps.atKey_put_same h1.isMap hkl _ _⟩
 · have hne:edgeL u' b'≠edgeL u b:=fun e=>he (edge_inj hu' hb' hu hb e)
   unfold putF
   rw [if_neg he]
   rw [Maps.has_put_other hne,Maps.atKey_put_other hne]
   exact h2 u' b' hu' hb'
end
section
variable (w:World) (gm gk:Nat) (ad:Addr) (N cap nK u b:Nat) (atv:Value) (FL:Nat→Nat) (F:Int→Int→Option Nat)
set_option maxRecDepth 100000 in
set_option maxHeartbeats 2000000 in
theorem fail_any (hm:Blk w gm 36 #[.slice (some ad) N cap,.map (some gk),atv]) (hn:∀ i,i<N→w.cell? ⟨(ad.add (i*4)).block,(ad.add (i*4)).off+2,none⟩=some (.int .i64 (FL i:Int))) (had:ad.block<w.heap.size) (em:EdgeM w gk nK F) (hN:N≤400) (hu:u<N) (hb:b<256) (hF:∀ i,i<N→FL i<N∧(0<i→FL i<i)):
 Calls Try.prog 24 #[.pointer (some ⟨gm,0,none⟩),.agg #[.int .i64 (u:Int),.int .u8 (b:Int)]] w fun e w'=>e= .returned (.int .i64 (fsX F FL u (b:Int):Int))∧Below w.heap.size w w':=by
 have hWB:Below w.heap.size w (w.alloc (.cells #[.int .i64 (u:Int),.int .u8 (b:Int)] 53)):=(Below.refl _ _).alloc (Nat.le_refl _) _
 have hWE:=Blk.new w 53 #[.int .i64 (u:Int),.int .u8 (b:Int)]
 obtain⟨W,hW⟩:∃ W,w.alloc (.cells #[.int .i64 (u:Int),.int .u8 (b:Int)] 53)=W:=⟨_,rfl⟩
 rw [hW] at hWB hWE
 have e0:W.cell? ⟨w.heap.size,0,none⟩=some (.int .i64 (u:Int)):=hWE.cell 0
 have e1:W.cell? ⟨w.heap.size,1,none⟩=some (.int .u8 (b:Int)):=hWE.cell 1
 have HWB:=Lib.hid hWB
 have HWE:=Lib.hid hWE
 have hmW:=Blk.below hm hWB hm.lt
 have m0:W.cell? ⟨gm,0,none⟩=some (.slice (some ad) N cap):=hmW.cell 0
 have hblk:∀ i,(ad.add (i*4)).block<w.heap.size:=fun i=>by rw [block_of_add];exact had
 have HNW:Hid (∀ w1,Below W.heap.size W w1→∀ i,i<N→w1.cell? ⟨(ad.add (i*4)).block,(ad.add (i*4)).off+2,none⟩=some (.int .i64 (FL i:Int))):=Lib.hid fun w1 hb1 i hi=>by
  have h1:=hWB.cell (p:=⟨(ad.add (i*4)).block,(ad.add (i*4)).off+2,none⟩) (hblk i)
  have h2:=hb1.cell (p:=⟨(ad.add (i*4)).block,(ad.add (i*4)).off+2,none⟩) (Nat.lt_of_lt_of_le (hblk i) hWB.size)
  rw [h2,h1,hn i hi]
 have HMW:=Lib.hid hmW
 have HEM:=Lib.hid (em.kept hWB)
 have HFF:=Lib.hid hF
 obtain⟨R,hR⟩:∃ R,R=fsX F FL u (b:Int):=⟨_,rfl⟩
 rw [←hR]
 have HR:=Lib.hid hR
 have nu:=HNW.out W (Below.refl _ _) u hu
 clear hm hn had em hF hWB hWE hmW hblk hR
 by_cases h0:u=0
 · have HX:Hid (R=0):=Lib.hid (by rw [HR.out];unfold fsX;rw [if_pos h0])
   have j0:((u:Int)==0)=true:=beq_iff_eq.2 (by omega)
   clear h0
   go_enter Try.func24,Try.ntmps24
   go_wp2_with fail
   go_ret
   exact⟨by rw [HX.out];rfl,HWB.out⟩
 · have HX:Hid (R=fs F FL (b:Int) (FL u+1) (FL u)):=Lib.hid (by rw [HR.out];unfold fsX;rw [if_neg h0])
   have j0:((u:Int)==0)=false:=beq_eq_false_iff_ne.2 (by omega)
   have j1:(u:Int)<(N:Int):=by omega
   have j2:(0:Int)≤(u:Int):=by omega
   have hfu:=(HFF.out u hu).1
   clear h0 HR
   go_enter Try.func24,Try.ntmps24
   go_wp2_with fail
   go_quiet (fail)
   go_wp2_with fail
   go_loopw [5] (fun v wr=>∃ a:Nat,v= .int .i64 (a:Int)∧a<N∧Hid (R=fs F FL (b:Int) (a+1) a)∧Hid (Below W.heap.size W wr)) (fun v _=>(intOf v).toNat)
   case atStart=>exact⟨FL u,rfl,hfu,HX,Lib.hid (below_drewN (Below.refl _ _) _)⟩
   case round=>
    clear HX nu m0 e0 e1
    obtain⟨a,rfl,ha,HX,HB⟩:=hrel
    have e0:wr.cell? ⟨w.heap.size,0,none⟩=some (.int .i64 (u:Int)):=(Blk.below HWE.out HB.out HWE.out.lt).cell 0
    have e1:wr.cell? ⟨w.heap.size,1,none⟩=some (.int .u8 (b:Int)):=(Blk.below HWE.out HB.out HWE.out.lt).cell 1
    have hmr:=Blk.below HMW.out HB.out HMW.out.lt
    have m0:wr.cell? ⟨gm,0,none⟩=some (.slice (some ad) N cap):=hmr.cell 0
    have m1:wr.cell? ⟨gm,1,none⟩=some (.map (some gk)):=hmr.cell 1
    have hem:=HEM.out.kept HB.out
    have na:=HNW.out wr HB.out a ha
    have j3:(a:Int)<(N:Int):=by omega
    have j4:(0:Int)≤(a:Int):=by omega
    cases hK:F (a:Int) (b:Int) with
    |some k=>
     have HX2:Hid (R=k):=Lib.hid (by rw [HX.out,fs_some hK])
     have lk:∀ q,(Instr.lookup 34 (.map (some gk)) (.agg #[.int .i64 (a:Int),.int .u8 (b:Int)]) true).run Try.prog (wr.drewN q)= .ok (.tuple #[.int .i64 (k:Int),.bool true]) (wr.drewN q):=fun q=>by
      have:=(hem.drewN q).look_run (a:Int) (b:Int) (wf_n (by omega)) (wf_b hb)
      rw [hK] at this;exact this
     have lk0:=lk 0
     have lk1:=lk 1
     rw [World.drewN_zero] at lk0
     clear hK hmr hem HX
     go_wp2_with fail
     go_quiet (fail)
     go_wp2_with fail
     go_ret
     exact⟨by rw [HX2.out];rfl,HWB.out.trans ((below_drewN HB.out _).mono HWB.out.size)⟩
    |none=>
     have lk:∀ q,(Instr.lookup 34 (.map (some gk)) (.agg #[.int .i64 (a:Int),.int .u8 (b:Int)]) true).run Try.prog (wr.drewN q)= .ok (.tuple #[.int .i64 0,.bool false]) (wr.drewN q):=fun q=>by
      have:=(hem.drewN q).look_run (a:Int) (b:Int) (wf_n (by omega)) (wf_b hb)
      rw [hK] at this;exact this
     have lk0:=lk 0
     rw [World.drewN_zero] at lk0
     by_cases ha0:a=0
     · have HX2:Hid (R=0):=Lib.hid (by rw [HX.out,fs_none hK,if_pos ha0])
       have j5:((a:Int)==0)=true:=beq_iff_eq.2 (by omega)
       clear hK hmr hem HX ha0
       go_wp2_with fail
       go_quiet (fail)
       go_wp2_with fail
       go_ret
       exact⟨by rw [HX2.out];rfl,HWB.out.trans ((below_drewN HB.out _).mono HWB.out.size)⟩
     · have hfa:=HFF.out a ha
       have hfl:=hfa.2 (by omega)
       have HX2:Hid (R=fs F FL (b:Int) (FL a+1) (FL a)):=Lib.hid (by
        rw [HX.out,fs_none hK,if_neg ha0]
        exact fs_more F FL (b:Int) hfl (Nat.lt_succ_self _) (fun i hi0 hia=>(HFF.out i (by omega)).2 hi0))
       have j5:((a:Int)==0)=false:=beq_eq_false_iff_ne.2 (by omega)
       clear hK hmr hem HX ha0
       go_wp2_with fail
       go_quiet (fail)
       go_wp2_with fail
       go_roundw
       case rel=>exact⟨FL a,rfl,hfa.1,HX2,Lib.hid (below_drewN HB.out _)⟩
       case measure=>simp [intOf];omega
end
end Go.Proofs.Ytmkaghpnihlhcaa
