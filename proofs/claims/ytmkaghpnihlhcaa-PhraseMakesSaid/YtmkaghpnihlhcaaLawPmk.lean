/- wicklaw.PhraseMakes: for all words Make returns what the reference returns. No condition. -/
import Derived.Test.YtmkaghpnihlhcaaTrM
import Derived.Test.YtmkaghpnihlhcaaTrP
import Derived.Test.YtmkaghpnihlhcaaTrQ
import Derived.Test.YtmkaghpnihlhcaaLst
import Derived.Test.YtmkaghpnihlhcaaPost
import Derived.WideShapes
import Derived.Lib.SmallJoins
namespace Go.Proofs.Ytmkaghpnihlhcaa.lawPmk
open Go.ChangeShapes Go.WideShapes Go.ChangeAt Go.RowKit Go.Joins Go.Deep
set_option linter.unusedVariables false
set_option linter.unusedSimpArgs false
section
variable (vs:List ByteArray) (A:Option Addr) (cap B:Nat) (w:World)
set_option maxRecDepth 100000 in
set_option maxHeartbeats 2000000 in
theorem walk_bad (hS:StW w B A cap vs) (h0:chkW vs≠0):
 Calls Try.prog 3 #[.slice A vs.length cap] w fun e w'=>e= .returned (.bool true)∧Below w.heap.size w w':=by
 have CM:=Lib.hid ((make_any vs A cap B w hS).mono (R':=fun e w'=>e= .returned (.tuple #[.slice none 0 0,.int .i64 (chkW vs)])∧Below w.heap.size w w') fun e w' ⟨hb,hr⟩=>by
  rcases hr with⟨_,h⟩|⟨h,_⟩|⟨h,_⟩
  · exact⟨h,hb⟩
  · exact absurd h h0
  · exact absurd h h0)
 have CP:=Lib.hid fun w1 (hb:Below w.heap.size w w1)=>(phrases_any vs A cap B w1 (hS.below (hb.mono hS.hB))).mono (R':=fun e w'=>e= .returned (.int .i64 (chkW vs))∧Below w1.heap.size w1 w') fun e w' ⟨h,hw⟩=>⟨h,by rw [hw];exact Below.refl _ _⟩
 obtain⟨E,hE⟩:∃ E,E=chkW vs:=⟨_,rfl⟩
 rw [←hE] at CM CP h0
 have e0:(E !=0)=true:=bne_iff_ne.2 h0
 have e1:(E==E)=true:=beq_self_eq_true E
 clear hE hS h0
 go_enter Try.func3,Try.ntmps3
 go_wp2_with fail
 refine CM.out.mono ?_
 rintro e w1 ⟨rfl,b1⟩
 have HB1:=Lib.hid b1
 have CP:=Lib.hid (CP.out w1 b1)
 clear b1
 go_wp2_with fail
 refine CP.out.mono ?_
 rintro e w2 ⟨rfl,b2⟩
 have HB2:=Lib.hid (HB1.out.trans (b2.mono HB1.out.size))
 clear b2
 go_wp2_with fail
 go_ret
 exact⟨rfl,HB2.out⟩
set_option maxRecDepth 100000 in
set_option maxHeartbeats 2000000 in
theorem walk_large (hS:StW w B A cap vs) (h0:chkW vs=0) (h4:400<(tx (wsL vs) 40).length):
 Calls Try.prog 3 #[.slice A vs.length cap] w fun e w'=>e= .returned (.bool true)∧Below w.heap.size w w':=by
 have CM:=Lib.hid ((make_any vs A cap B w hS).mono (R':=fun e w'=>e= .returned (.tuple #[.slice none 0 0,.int .i64 2])∧Below w.heap.size w w') fun e w' ⟨hb,hr⟩=>by
  rcases hr with⟨h,_⟩|⟨_,_,h⟩|⟨_,h,_⟩
  · exact absurd h0 h
  · exact⟨h,hb⟩
  · omega)
 have CP:=Lib.hid fun w1 (hb:Below w.heap.size w w1)=>(phrases_any vs A cap B w1 (hS.below (hb.mono hS.hB))).mono (R':=fun e w'=>e= .returned (.int .i64 (chkW vs))∧Below w1.heap.size w1 w') fun e w' ⟨h,hw⟩=>⟨h,by rw [hw];exact Below.refl _ _⟩
 rw [h0] at CP
 have CT:=Lib.hid fun w1 (hb:Below w.heap.size w w1)=>(trie_any vs A cap B w1 (hS.below (hb.mono hS.hB)) (right_of h0)).mono (R':=fun e w'=>e= .returned (.tuple #[.slice none 0 0,.int .i64 2])∧Below w1.heap.size w1 w') fun e w' ⟨hb,hr⟩=>by
  rcases hr with⟨_,h⟩|⟨h,_⟩
  · exact⟨h,hb⟩
  · omega
 clear hS h0 h4
 go_enter Try.func3,Try.ntmps3
 go_wp2_with fail
 refine CM.out.mono ?_
 rintro e w1 ⟨rfl,b1⟩
 have HB1:=Lib.hid b1
 have CP:=Lib.hid (CP.out w1 b1)
 clear b1
 go_wp2_with fail
 refine CP.out.mono ?_
 rintro e w2 ⟨rfl,b2⟩
 have HB2:=Lib.hid (HB1.out.trans (b2.mono HB1.out.size))
 have CT:=Lib.hid (CT.out w2 HB2.out)
 clear b2
 go_wp2_with fail
 refine CT.out.mono ?_
 rintro e w3 ⟨rfl,b3⟩
 have HB3:=Lib.hid (HB2.out.trans (b3.mono HB2.out.size))
 have CS:=Lib.hid (sameTrie_any (A:=none) (A':=none) (c:=0) (c':=0) (B:=0) (B':=0) (D:= []) (EN:=fun _=> []) (w:=w3) (by simp) (by simp) (Nat.zero_le _) (Nat.zero_le _) (fun k hk=>absurd hk (Nat.not_lt_zero _)) (fun k hk=>absurd hk (Nat.not_lt_zero _)))
 clear b3
 go_wp2_with fail
 refine CS.out.mono ?_
 rintro e w4 ⟨rfl,b4⟩
 have HB4:=Lib.hid (HB3.out.trans (b4.mono HB3.out.size))
 clear b4
 go_wp2_with fail
 go_ret
 exact⟨rfl,HB4.out⟩
set_option maxRecDepth 100000 in
set_option maxHeartbeats 2000000 in
theorem walk_ok (hS:StW w B A cap vs) (h0:chkW vs=0) (h4:(tx (wsL vs) 40).length≤400):
 Calls Try.prog 3 #[.slice A vs.length cap] w fun e w'=>e= .returned (.bool true)∧Below w.heap.size w w':=by
 have hv30:=(right_of h0).few
 have CM:=Lib.hid ((make_any vs A cap B w hS).mono (R':=fun e w'=>∃ g c,e= .returned (.tuple #[.slice (some ⟨g,0,none⟩) (nds (tx (wsL vs) 40)).length c,.int .i64 0])∧TreeM w' w'.heap.size (some ⟨g,0,none⟩) (nds (tx (wsL vs) 40)) (enW vs)∧Below w.heap.size w w') fun e w' ⟨hb,hr⟩=>by
  rcases hr with⟨h,_⟩|⟨_,h,_⟩|⟨_,_,g,c,_,h,h2⟩
  · exact absurd h0 h
  · omega
  · exact⟨g,c,by rw [h,nds_len],h2,hb⟩)
 have CP:=Lib.hid fun w1 (hb:Below w.heap.size w w1)=>(phrases_any vs A cap B w1 (hS.below (hb.mono hS.hB))).mono (R':=fun e w'=>e= .returned (.int .i64 (chkW vs))∧Below w1.heap.size w1 w') fun e w' ⟨h,hw⟩=>⟨h,by rw [hw];exact Below.refl _ _⟩
 rw [h0] at CP
 have CT:=Lib.hid fun w1 (hb:Below w.heap.size w w1)=>(trie_any vs A cap B w1 (hS.below (hb.mono hS.hB)) (right_of h0)).mono (R':=fun e w'=>∃ A c,e= .returned (.tuple #[.slice A (nds (tx (wsL vs) 40)).length c,.int .i64 0])∧TreeM w' w'.heap.size A (nds (tx (wsL vs) 40)) (enW vs)∧Below w1.heap.size w1 w') fun e w' ⟨hb,hr⟩=>by
  rcases hr with⟨h,_⟩|⟨_,A,c,h,h2⟩
  · omega
  · exact⟨A,c,by rw [h,nds_len],h2,hb⟩
 have hd:(nds (tx (wsL vs) 40)).length≤1000:=by rw [nds_len];omega
 have he:∀ k,(enW vs k).length≤1000:=fun k=>Nat.le_trans (enW_len vs k) (by omega)
 obtain⟨D,hD⟩:∃ D,D=nds (tx (wsL vs) 40):=⟨_,rfl⟩
 obtain⟨EN,hEN⟩:∃ EN,EN=enW vs:=⟨_,rfl⟩
 rw [←hD] at CM CT hd
 rw [←hEN] at CM CT he
 have HE:=Lib.hid he
 clear hS h0 h4 hD hEN he hv30
 go_enter Try.func3,Try.ntmps3
 go_wp2_with fail
 refine CM.out.mono ?_
 rintro e w1 ⟨g,c,rfl,hT,b1⟩
 have HB1:=Lib.hid b1
 have HT1:=Lib.hid hT
 have CP:=Lib.hid (CP.out w1 b1)
 clear b1 hT
 go_wp2_with fail
 refine CP.out.mono ?_
 rintro e w2 ⟨rfl,b2⟩
 have HB2:=Lib.hid (HB1.out.trans (b2.mono HB1.out.size))
 have HT2:=Lib.hid (HT1.out.below b2)
 have hz2:=b2.size
 have CT:=Lib.hid (CT.out w2 HB2.out)
 clear b2
 go_wp2_with fail
 refine CT.out.mono ?_
 rintro e w3 ⟨A3,c3,rfl,hT3,b3⟩
 have HB3:=Lib.hid (HB2.out.trans (b3.mono HB2.out.size))
 have CS:=Lib.hid (sameTrie_any (c:=c) (c':=c3) hd HE.out (Nat.le_trans hz2 b3.size) (Nat.le_refl _) (HT2.out.below (b3.mono hz2)) hT3)
 clear b3 hT3
 go_wp2_with fail
 refine CS.out.mono ?_
 rintro e w4 ⟨rfl,b4⟩
 have HB4:=Lib.hid (HB3.out.trans (b4.mono HB3.out.size))
 clear b4
 go_wp2_with fail
 go_ret
 exact⟨rfl,HB4.out⟩
theorem walk (hS:StW w B A cap vs):
 Calls Try.prog 3 #[.slice A vs.length cap] w fun e w'=>e= .returned (.bool true)∧Below w.heap.size w w':=by
 by_cases h0:chkW vs=0
 · by_cases h4:(tx (wsL vs) 40).length≤400
   · exact walk_ok vs A cap B w hS h0 h4
   · exact walk_large vs A cap B w hS h0 (by omega)
 · exact walk_bad vs A cap B w hS h0
end
theorem open_strsW {H:Type} {enc:TypeId×Value→H} {W:World} {v:Value} {d:DataW H} {p:List MemPlace} {base:Nat}
 (hv:Value.okWide Try.prog W .any base 22 v) (h:DataW.Trod enc Try.prog W 0 (fun _=>true) true 22 v d p):
 ∃ (A:Option Addr) (cap:Nat) (vs:List ByteArray),v= .slice A vs.length cap∧StW W W.heap.size A cap vs:=by
 obtain⟨a0,len,cap,rfl⟩:=okWide_slice Try.underlying22 hv
 obtain⟨fuel,hf⟩:=h
 have hf2:DataW.trod enc Try.prog W 0 (fun _=>true) true fuel 22 [.slice a0 len cap]=some (d,p):=by simpa [Value.cells] using hf
 rcases DataW.trod_slice Try.underlying22 hf2 with⟨e5,_⟩|⟨a,len,cap,elems,rest,k',rfl,e5,hx,_,hl,hm,hlen,hel,hsp,hns⟩
 · simp only [List.cons.injEq,and_true] at e5
   rw [e5]
   exact⟨none,0,[],rfl,Reads.none_,Nat.le_refl _,Nat.le_refl _,by omega⟩
 · simp only [List.cons.injEq,and_true] at e5
   rw [e5]
   have kk:Try.prog.cellsOf 9=1:=by kernel_rfl
   rw [kk] at hel
   have hone:∀ i,i<len→∃ (x:List MemPlace) (s:ByteArray),W.cells? 0 (a.add (i*1)) 1=some [.string s]:=by
    intro i hi
    have h1:(W.cells? 0 (a.add (i*1)) 1).bind (DataW.trod enc Try.prog W 0 (fun _=>true) true k' 9)=elems[i]? :=hel i hi
    rw [List.getElem?_eq_getElem (by omega)] at h1
    obtain⟨cs',h2,h3⟩:=Option.bind_eq_some_iff.1 h1
    obtain⟨s,e0,z0,_⟩:=DataW.trod_string Try.underlying9 h3
    exact⟨[],s,by rw [h2,e0]⟩
   obtain⟨vs,hvs,hall⟩:=list_of_lt hone
   unfold maxLen at hm
   refine⟨some a,cap,vs,by rw [hvs],⟨by rw [List.length_map,Nat.mul_one],fun h0=> ?_⟩,Nat.le_refl _,by omega,by omega⟩
   obtain⟨_,h2⟩:=hall 0 (by omega)
   obtain⟨_,h3,h4⟩:=World.cells?_some h2
   refine⟨a,rfl,?_,fun j u hu=> ?_⟩
   · have h5:=h4 0 (by omega)
     rw [List.getElem?_eq_getElem (by simp)] at h5
     have:=World.block_lt_of_cell? _ _ h5
     rwa [block_of_add,block_of_add] at this
   · obtain⟨hj,_⟩:=List.getElem?_eq_some_iff.1 hu
     rw [List.length_map] at hj
     obtain⟨_,g2⟩:=hall j hj
     obtain⟨_,g4,g5⟩:=World.cells?_some g2
     have:=g5 0 (by omega)
     rw [add_of_add,Nat.mul_one,Nat.add_zero] at this
     rw [this,←hu,List.getElem?_map,List.getElem?_eq_getElem hj];rfl
theorem own:ownKnob Try.prog.godebug=none:=by kernel_rfl
set_option maxRecDepth 100000 in
theorem contract (H:Type) (enc:TypeId×Value→H) (W:World) (base:Nat) (args:Array Value) (ds gs:List (DataW H)) (before:List MemPlace)
 (hval:∀ (j:Nat) t v,Try.f3.params[j]? =some t→args[j]? =some v→Value.okWide Try.prog W .any base t v)
 (hW:DataW.Whole enc Try.prog Try.f3.params.toList Rows.phraseMakesSpec.vars false W args.toList ds gs before):
 Calls Try.prog 3 args W fun e W'=>∃ v,e= .returned v∧Rows.phraseMakesSpec.post enc Try.prog Try.f3 false true false false W args v W':=by
 have hW':=hW
 obtain⟨p,q,hA0,hV,rfl,hfz,hnd⟩:=hW
 have hA:DataW.TrodAll enc Try.prog W 0 (fun _=>true) true Try.f3.params.toList args.toList ds p:=hA0
 rw [Try.params3] at hA hval
 obtain⟨v0,vs0,d0,ds0,p0,q0,hargs,rfl,rfl,h0,r0⟩:=trodAll_cons hA
 obtain⟨rfl,rfl,rfl⟩:=trodAll_nil r0
 obtain rfl:args=#[v0]:=by cases args;simp_all
 obtain⟨rfl,rfl⟩:=trodVars_none hV
 obtain⟨A,cap,vs,rfl,hS⟩:=open_strsW (hval 0 22 v0 rfl rfl) h0
 clear hA0
 refine(walk vs A cap _ W hS).mono fun e W' ⟨he,hg⟩=> ?_
 subst he
 exact⟨_,rfl,post_true 4 Try.underlying4 (by kernel_rfl) (by kernel_rfl) (by kernel_rfl) rfl rfl hW' hg⟩
set_option maxRecDepth 100000 in
theorem lifted (os:Os) (started:os.Started) (H:Type) (enc:TypeId×Value→H):
 ReturnsInHanded {} Try.checked os 3 .any (Rows.phraseMakesSpec.pre6 enc Try.prog Try.f3 Rows.phraseMakesRow.domain false) (Rows.phraseMakesSpec.post enc Try.prog Try.f3 false true false false):=by
 refine returnsInHanded_of_change (C:=Try.checked) own started (by kernel_rfl) Try.func3
  (ChangeSpec.witness6 (enc:=enc) (C:=Try.checked) false ⟨#[],#[.slice none 0 0],[]⟩ 8 (by kernel_rfl) (by kernel_rfl) (by kernel_rfl) (by kernel_rfl)) ?_
 intro W base args ds gs before hval hW _ _
 exact contract H enc W base args ds gs before hval hW
theorem proved:Rows.PhraseMakesSaid:=
 OpenClaim.holds_of_wide 3 Try.f3 rfl rfl rfl rfl rfl rfl rfl ⟨rfl,rfl,rfl,rfl,rfl⟩ rfl rfl rfl rfl rfl (by kernel_rfl) Try.func3 (by kernel_rfl)
  (of_decide_eq_true (by kernel_rfl)) (by unfold Func.isWrapper;first|(rw [if_pos (by decide+kernel)];kernel_rfl)|(rw [if_neg (by decide+kernel)];exact⟨rfl,rfl⟩))
  (fun os started H enc _=>lifted os started H enc)
#print axioms proved
end Go.Proofs.Ytmkaghpnihlhcaa.lawPmk
