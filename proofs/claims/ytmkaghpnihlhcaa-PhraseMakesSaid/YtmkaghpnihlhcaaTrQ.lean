/- Walks: slices.Equal of two rows of ints that are the same; wickref.SameTrie of two trees that are the same. -/
import Derived.Test.YtmkaghpnihlhcaaTrK
import Derived.LoopTactic
import Derived.Deep.QuietTactic
namespace Go.Proofs.Ytmkaghpnihlhcaa
open Go.RowKit
set_option linter.unusedVariables false
set_option linter.unusedSimpArgs false
section
variable {A A':Option Addr} {c c' B B':Nat} {m:List Nat} {w:World}
set_option maxHeartbeats 1000000 in
theorem eqR_any (hm:m.length≤1000) (h:Reads w B 1 A m.length (inC m)) (h':Reads w B' 1 A' m.length (inC m)):
 Calls Try.prog 17 #[.slice A m.length c,.slice A' m.length c'] w fun e w'=>e= .returned (.bool true)∧Below w.heap.size w w':=by
 have hb0:((m.length:Int) !=(m.length:Int))=false:=by simp
 have H:=Lib.hid h
 have H':=Lib.hid h'
 clear h h'
 go_enter Try.func17,Try.ntmps17
 go_wp2_with fail
 go_loopw [13] (fun i wr=>∃ k q:Nat,k≤m.length∧i= .int .i64 k∧wr=w.drewN q) (fun i _=>m.length-(intOf i).toNat)
 case atStart=>exact⟨0,0,by omega,rfl,rfl⟩
 case round=>
  obtain⟨k,q,hk,rfl,rfl⟩:=hrel
  by_cases hlt:k<m.length
  · have hu:=inC_get hlt
    obtain⟨ad,rfl,_,hc⟩:=H.out.2 (by omega)
    obtain⟨ad',rfl,_,hc'⟩:=H'.out.2 (by omega)
    have x0:w.cell? (ad.add k)=some (.int .i64 (m[k]:Int)):=hc _ _ hu
    have y0:w.cell? (ad'.add k)=some (.int .i64 (m[k]:Int)):=hc' _ _ hu
    have e0:((m[k]:Int) !=(m[k]:Int))=false:=by simp
    have k1:(k:Int)<(m.length:Int):=by omega
    have k0:(0:Int)≤(k:Int):=by omega
    have kw:IntKind.i64.wrap ((k:Int)+1)=(k:Int)+1:=IntWalk.i64_in _ (by omega)
    obtain⟨z,hz⟩:∃ z,m[k]=z:=⟨_,rfl⟩
    rw [hz] at x0 y0 e0
    clear hu hc hc' hz
    go_wp2_with fail
    go_quiet (fail)
    go_wp2_with fail
    go_roundw
    case rel=>exact⟨k+1,_,by omega,by go_num,rfl⟩
    case measure=>simp [intOf];omega
  · obtain rfl:k=m.length:=by omega
    go_wp2_with fail
    go_ret
    exact⟨rfl,below_drewN (Below.refl _ _) q⟩
theorem sameNode_any (b u f:Nat) (hm:m.length≤1000) (hB:B≤w.heap.size) (hB':B'≤w.heap.size) (h:Reads w B 1 A m.length (inC m)) (h':Reads w B' 1 A' m.length (inC m)):
 Calls Try.prog 16 #[.agg #[.int .u8 (b:Int),.int .i64 (u:Int),.int .i64 (f:Int),.slice A m.length c],.agg #[.int .u8 (b:Int),.int .i64 (u:Int),.int .i64 (f:Int),.slice A' m.length c']] w fun e w'=>e= .returned (.bool true)∧Below w.heap.size w w':=by
 have C:=Lib.hid fun W (hb:Below w.heap.size w W)=>eqR_any (c:=c) (c':=c') hm (h.below (hb.mono hB)) (h'.below (hb.mono hB'))
 have e1:((b:Int)==(b:Int))=true:=by simp
 have e2:((u:Int)==(u:Int))=true:=by simp
 have e3:((f:Int)==(f:Int))=true:=by simp
 clear h h'
 go_enter Try.func16,Try.ntmps16
 go_wp2_with fail
 have hb2:Below w.heap.size w ((w.alloc (.cells #[.int .u8 (b:Int),.int .i64 (u:Int),.int .i64 (f:Int),.slice A m.length c] 33)).alloc (.cells #[.int .u8 (b:Int),.int .i64 (u:Int),.int .i64 (f:Int),.slice A' m.length c'] 33)):=((Below.refl _ _).alloc (Nat.le_refl _) _).alloc (by simp) _
 refine(C.out _ hb2).mono ?_
 rintro e w1 ⟨rfl,b1⟩
 have HB:=Lib.hid (hb2.trans (b1.mono (by simp;omega)))
 clear b1 hb2
 go_wp2_with fail
 go_ret
 exact⟨rfl,HB.out⟩
end
section
variable {A A':Option Addr} {c c' B B':Nat} {D:List (Nat×Nat×Nat)} {EN:Nat→List Nat} {w:World}
set_option maxRecDepth 100000 in
set_option maxHeartbeats 2000000 in
theorem eqNodes_any (hD:D.length≤1000) (hE:∀ k,(EN k).length≤1000) (hB:B≤w.heap.size) (hB':B'≤w.heap.size) (h:TreeM w B A D EN) (h':TreeM w B' A' D EN):
 Calls Try.prog 15 #[.slice A D.length c,.slice A' D.length c',.func (.func 16) #[] #[]] w fun e w'=>e= .returned (.bool true)∧Below w.heap.size w w':=by
 have hb0:((D.length:Int) !=(D.length:Int))=false:=by simp
 have H:=Lib.hid h
 have H':=Lib.hid h'
 have HEn:=Lib.hid hE
 clear h h' hE
 go_enter Try.func15,Try.ntmps15
 go_wp2_with fail
 go_loopw [17] (fun i wr=>∃ k:Nat,k≤D.length∧i= .int .i64 (k:Int)∧Below w.heap.size w wr) (fun i _=>D.length-(intOf i).toNat)
 case atStart=>exact⟨0,by omega,rfl,Below.refl _ _⟩
 case round=>
  obtain⟨k,hk,rfl,hb⟩:=hrel
  by_cases hlt:k<D.length
  · have i1:(k:Int)<(D.length:Int):=by omega
    have i0:(0:Int)≤(k:Int):=by omega
    have iw:IntKind.i64.wrap ((k:Int)+1)=(k:Int)+1:=IntWalk.i64_in _ (by omega)
    obtain⟨g,rfl,hg,x0,x1,x2,E,ce,x3,hr⟩:=(H.out.below (hb.mono hB)) k hlt
    obtain⟨g',rfl,hg',y0,y1,y2,E',ce',y3,hr'⟩:=(H'.out.below (hb.mono hB')) k hlt
    have hk1:=HEn.out k
    have HR:=Lib.hid hr
    have HR':=Lib.hid hr'
    have HB:=Lib.hid hb
    have hz1:B≤wr.heap.size:=Nat.le_trans hB hb.size
    have hz2:B'≤wr.heap.size:=Nat.le_trans hB' hb.size
    have hgw:g<wr.heap.size:=by omega
    have hgw':g'<wr.heap.size:=by omega
    clear hr hr' hb
    obtain⟨dd,hdd⟩:∃ dd,D.getD k (0,0,0)=dd:=⟨_,rfl⟩
    rw [hdd] at x0 x1 x2 y0 y1 y2
    obtain⟨mm,hmm⟩:∃ mm,EN k=mm:=⟨_,rfl⟩
    rw [hmm] at x3 y3 HR HR' hk1
    clear hdd hmm
    go_wp2_with fail
    have hb2:∀ o o':Obj,Below wr.heap.size wr ((wr.alloc o).alloc o'):=fun o o'=>((Below.refl _ _).alloc (Nat.le_refl _) _).alloc (by simp) _
    refine(sameNode_any (B:=B) (B':=B') dd.1 dd.2.1 dd.2.2 hk1 (Nat.le_trans hz1 (hb2 _ _).size) (Nat.le_trans hz2 (hb2 _ _).size) (HR.out.below ((hb2 _ _).mono hz1)) (HR'.out.below ((hb2 _ _).mono hz2))).mono ?_
    rintro e w1 ⟨rfl,b1⟩
    have HB1:=Lib.hid ((HB.out.trans ((hb2 _ _).mono HB.out.size)).trans (b1.mono (Nat.le_trans HB.out.size (hb2 _ _).size)))
    clear b1 hb2
    go_wp2_with fail
    go_roundw
    case rel=>exact⟨k+1,by omega,by go_num,HB1.out⟩
    case measure=>simp [intOf];omega
  · obtain rfl:k=D.length:=by omega
    have HB:=Lib.hid hb
    clear hb hlt
    go_wp2_with fail
    go_ret
    exact⟨rfl,HB.out⟩
theorem sameTrie_any (hD:D.length≤1000) (hE:∀ k,(EN k).length≤1000) (hB:B≤w.heap.size) (hB':B'≤w.heap.size) (h:TreeM w B A D EN) (h':TreeM w B' A' D EN):
 Calls Try.prog 7 #[.slice A D.length c,.slice A' D.length c'] w fun e w'=>e= .returned (.bool true)∧Below w.heap.size w w':=by
 have C:=Lib.hid (eqNodes_any (c:=c) (c':=c') hD hE hB hB' h h')
 clear h h' hE
 go_enter Try.func7,Try.ntmps7
 go_wp2_with fail
 refine C.out.mono ?_
 rintro e w1 ⟨rfl,b1⟩
 have HB:=Lib.hid b1
 clear b1
 go_wp2_with fail
 go_ret
 exact⟨rfl,HB.out⟩
end
end Go.Proofs.Ytmkaghpnihlhcaa
