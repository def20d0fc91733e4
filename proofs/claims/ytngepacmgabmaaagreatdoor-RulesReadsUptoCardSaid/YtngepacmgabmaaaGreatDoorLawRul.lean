/- wicklaw.RulesReads: for all strings of bulk at most 1048576 rules.Parse returns what the reference returns; the card. Condition: that bulk. -/
import Derived.Test.YtngepacmgabmaaaGreatDoorCards
import Derived.Test.YtngepacmgabmaaaGreatDoorTie
import Derived.Test.YtngepacmgabmaaaGreatDoorGaq
import Derived.Test.YtngepacmgabmaaaGreatDoorGax
import Derived.Test.YtngepacmgabmaaaGreatDoorGay
import Derived.Deep.DeepHandedRow
import Derived.Lib.LaidTab
import Derived.LaidSub
import Derived.MakeChecks
namespace Go.Proofs.YtngepacmgabmaaaGreatDoor.lawRul
open Go.ChangeShapes Go.WideShapes Go.ChangeAt Go.RowKit
open Go.ChangeMaps (open_string shut_string)
set_option linter.unusedVariables false
set_option linter.unusedSimpArgs false
theorem strs_of_tab {H:Type} {enc:TypeId×Value->H} {P:Program} {w:World} {base:Nat} {sp:Nat->Bool} {held:Bool} {fuel:Nat} {t e:TypeId} {n:Nat} {cs:List Value} {ss:List (List UInt8)} {p:List MemPlace}
 (ht:P.underlying t=some (.array n e)) (he:P.underlying e=some .string) (hce:P.cellsOf e=1) (hct:P.cellsOf t=n)
 (h:DataW.trod enc P w base sp held fuel t cs=some (.agg (ss.map λ s=> .lit (.string s)),p)) (i:Nat) (hi:i<ss.length):cs[i]? =some (.string (str ss[i])):=by
 cases fuel with
 |zero=>simp [DataW.trod] at h
 |succ fuel=>
  simp only [DataW.trod,ht,hce,hct,Nat.mul_one] at h;split at h
  . rename_i hl
    obtain⟨xs,hm,hx⟩:=Option.map_eq_some_iff.1 h
    have hxs:xs.map (·.1)=ss.map λ s=>(DataW.lit (.string s):DataW H):=by
     have:=congrArg Prod.fst hx
     simpa using this
    have hxl:xs.length=n:=by simpa using Lib.mapM_length hm
    have hzl:ss.length=n:=by
     have:=congrArg List.length hxs;simp at this;omega
    have hin:i<n:=(by omega);obtain⟨b,hb,hf⟩:=Lib.mapM_at hm i i (by simp [hin]);obtain⟨z,hc,rfl,_⟩:=DataW.trod_string he hf
    have h1:cs[i]? =some (.string z):=by
     have:=congrArg (·[0]?) hc
     simpa [List.getElem?_take,List.getElem?_drop] using this
    have h2:(xs.map (·.1))[i]? =some (DataW.lit (.string z.data.toList):DataW H):=(by simp [hb]);rw [hxs,List.getElem?_map,List.getElem?_eq_getElem hi,Option.map_some] at h2;injection h2 with h2;injection h2 with h2;injection h2 with h2;rw [h1,h2]
  . cases h
theorem tb_of {W:World} {g:Nat} {L:List ByteArray} {cs:List Value} (h0:0<L.length) (hc:∀ i,W.cell? ⟨g,i,none⟩=cs[i]?) (h1:∀ i (hi:i<(L.map (·.data.toList)).length),cs[i]? =some (.string (str (L.map (·.data.toList))[i]))):TbW g L W:=by
 have h:∀ k,k<L.length->W.cell? ⟨g,k,none⟩=some (.string (L.getD k ByteArray.empty)):=λ k hk=>by
  rw [hc k,h1 k (by rw [List.length_map];exact hk),List.getElem_map];unfold List.getD;rw [List.getElem?_eq_getElem hk];rfl
 exact⟨World.block_lt_of_cell? _ _ (h 0 h0),h⟩
set_option maxRecDepth 100000 in
theorem tw_of_laid {W:World} (h:laidMetH Tryz.prog Rows.rulesReadsUptoRow.laid W):TW W:=by
 rw [MakeChecks.laidMetH_plain _ _ _ (by kernel_rfl)] at h;obtain⟨ps,hv,_,_⟩:=h;obtain⟨g1,t1,cs1,fu1,p1,q1,_,_,_,_,hv2,_⟩:=hv;obtain⟨g,t,cs,fuel,p,q,hg,ht,hvar,hd,hv3,_⟩:=hv2;obtain rfl:3=g:=Option.some.inj ((show Tryz.prog.globalNamed "gatewicket/wickref.pipeWords"=some 3 by kernel_rfl).symm.trans hg)
 obtain rfl:98=t:=Option.some.inj ((show (Tryz.prog.globals[3]?).map (·.type)=some 98 by kernel_rfl).symm.trans ht)
 have TP:PW W:=by
  have hc:∀ i,i<12->W.cell? ⟨3,i,none⟩=some (.string (pwB i)):=λ i hi=>by
   have h1:=strs_of_tab (ss:=pwL) Tryz.underlying98 Tryz.underlying9 (by kernel_rfl) (by kernel_rfl) hd i hi;have h2:=World.var?_cell hg hvar i;rw [<-Array.getElem?_toList] at h2;rw [h2,h1];unfold pwB List.getD;rw [List.getElem?_eq_getElem (show i<pwL.length from hi)];rfl
  exact⟨World.block_lt_of_cell? _ _ (hc 0 (by omega)),hc⟩
 clear hg ht hvar hd;obtain⟨g,t,cs,fuel,p,q,hg,ht,hvar,hd,hv4,_⟩:=hv3;obtain rfl:0=g:=Option.some.inj ((show Tryz.prog.globalNamed "gatewicket/wickref.varWords"=some 0 by kernel_rfl).symm.trans hg)
 obtain rfl:60=t:=Option.some.inj ((show (Tryz.prog.globals[0]?).map (·.type)=some 60 by kernel_rfl).symm.trans ht);have TV:TbW 0 Jf7 W:=tb_of (by decide) (λ i=>by have h2:=World.var?_cell hg hvar i;rw [<-Array.getElem?_toList] at h2;exact h2) λ i hi=>strs_of_tab (ss:=Jf7.map (·.data.toList)) Tryz.underlying60 Tryz.underlying9 (by kernel_rfl) (by kernel_rfl) hd i hi
 clear hg ht hvar hd;obtain⟨g,t,cs,fuel,p,q,hg,ht,hvar,hd,hv5,_⟩:=hv4;obtain rfl:2=g:=Option.some.inj ((show Tryz.prog.globalNamed "gatewicket/wickref.opWords"=some 2 by kernel_rfl).symm.trans hg)
 obtain rfl:60=t:=Option.some.inj ((show (Tryz.prog.globals[2]?).map (·.type)=some 60 by kernel_rfl).symm.trans ht);have TO:TbW 2 Zd4 W:=tb_of (by decide) (λ i=>by have h2:=World.var?_cell hg hvar i;rw [<-Array.getElem?_toList] at h2;exact h2) λ i hi=>strs_of_tab (ss:=Zd4.map (·.data.toList)) Tryz.underlying60 Tryz.underlying9 (by kernel_rfl) (by kernel_rfl) hd i hi
 clear hg ht hvar hd;obtain⟨g,t,cs,fuel,p,q,hg,ht,hvar,hd,hv6,_⟩:=hv5;obtain rfl:1=g:=Option.some.inj ((show Tryz.prog.globalNamed "gatewicket/wickref.actWords"=some 1 by kernel_rfl).symm.trans hg)
 obtain rfl:61=t:=Option.some.inj ((show (Tryz.prog.globals[1]?).map (·.type)=some 61 by kernel_rfl).symm.trans ht);have TA:TbW 1 XF4 W:=tb_of (by decide) (λ i=>by have h2:=World.var?_cell hg hvar i;rw [<-Array.getElem?_toList] at h2;exact h2) λ i hi=>strs_of_tab (ss:=XF4.map (·.data.toList)) Tryz.underlying61 Tryz.underlying9 (by kernel_rfl) (by kernel_rfl) hd i hi
 clear hg ht hvar hd;exact⟨TV,TO,TA,TP⟩
set_option maxRecDepth 100000 in
set_option maxHeartbeats 2000000 in
theorem walk (s:ByteArray) (w:World) (_:s.size<=maxLen) (hs:s.size<=1048576) (hT:TW w) (hm:∃ m,w.cell? ⟨4,0,none⟩=some (.int .i64 m)):
 Calls Tryz.prog 3 #[.string s] w λ e w'=>e= .returned (.bool true)/\Below w.heap.size w w':=by
 obtain⟨m,hm⟩:=hm;have C1:=qh (kz6 s m w hs hm);have C2:=qh λ w' (hb:Below w.heap.size w w')=>zr3 s w' hs (hT.below hb)
 unfold KN4 at C1 C2;obtain⟨EL,hEL⟩:∃ E,E=(txE s).1:=⟨_,rfl⟩;obtain⟨EE,hEE⟩:∃ E,E=(txE s).2:=⟨_,rfl⟩;rw [<-hEL,<-hEE] at C1 C2;have e1:(EL==EL)=true:=by simp
 have e2:(EE==EE)=true:=by simp
 unfold RsR at C1 C2;clear hT hm hEL hEE;go_enter Tryz.func3,Tryz.ntmps3;go_wp2_with fail;refine C1.out.mono ?_;rintro e w1 ⟨most,st,A,c,l,rfl,h1,h2,hr,b1⟩;have HR1:=qh (And.intro h1 h2);obtain⟨V,hV⟩:∃ V,w1.alloc (.cells #[.int .i64 most,.int .i64 st,.slice A l.length c] 24)=V:=⟨_,rfl⟩;have hVb:Below w1.heap.size w1 V:=by rw [<-hV];exact(Below.refl _ _).alloc (Nat.le_refl _) _
 have HVK:Hid (Blk V w1.heap.size 24 #[.int .i64 most,.int .i64 st,.slice A l.length c]):=qh (by rw [<-hV];exact Blk.new _ _ _);have HBV:=qh (b1.trans (hVb.mono b1.size));have HRV:=qh (hr.below hVb);clear h1 h2 hr b1 hVb C1;go_upto_region 2 with fail;clear hV;go_wp2_with fail;refine(C2.out _ HBV.out).mono ?_;rintro e w2 ⟨most2,st2,A2,c2,l2,rfl,h1,h2,hr,b2⟩
 have hq:most2=most/\st2=st/\l.map bare=l2.map bare:=by
  obtain⟨p1,p2⟩:=HR1.out;by_cases h:EE=0
  . obtain⟨a1,a2,a3⟩:=p1 h;obtain⟨b1,b2,b3⟩:=h1 h;exact⟨b1.trans a1.symm,b2.trans a2.symm,Eq.trans a3 b3.symm⟩
  . obtain⟨a1,a2,a3⟩:=p2 h;obtain⟨b1,b2,b3⟩:=h2 h;exact⟨b1.trans a1.symm,b2.trans a2.symm,by rw [a3,b3]⟩
 obtain⟨rfl,rfl,hq⟩:=hq;obtain⟨U,hU⟩:∃ U,w2.alloc (.cells #[.int .i64 most2,.int .i64 st2,.slice A2 l2.length c2] 24)=U:=⟨_,rfl⟩;have hUb:Below w2.heap.size w2 U:=by rw [<-hU];exact(Below.refl _ _).alloc (Nat.le_refl _) _
 have hUk:Blk U w2.heap.size 24 #[.int .i64 most2,.int .i64 st2,.slice A2 l2.length c2]:=by rw [<-hU];exact Blk.new _ _ _
 have hVl:w1.heap.size<V.heap.size:=Blk.lt HVK.out;have hVk2:Blk U w1.heap.size 24 #[.int .i64 most2,.int .i64 st2,.slice A l.length c]:=(HVK.out.below b2 hVl).below hUb (Nat.lt_of_lt_of_le hVl b2.size);have HBU:=qh (HBV.out.trans ((b2.trans (hUb.mono b2.size)).mono HBV.out.size));have CE:=qh (JB7 most2 st2 hq ((HRV.out.kept b2).kept hUb) (hr.kept hUb));obtain⟨x0,x1,x2⟩:=zq5 hVk2;obtain⟨y0,y1,y2⟩:=zq5 hUk;clear h1 h2 hr b2 hq HR1 HRV hUb hVl HVK hVk2 hUk C2;go_upto_region 3 with fail;clear hU;go_wp2_with fail;refine CE.out.mono ?_;rintro e w3 ⟨rfl,b3⟩;have HB3:=qh (HBU.out.trans (b3.mono HBU.out.size));clear b3;go_wp2_with fail;go_ret;exact⟨rfl,HB3.out⟩
theorem own:ownKnob Tryz.prog.godebug=none:=by kernel_rfl
set_option maxRecDepth 100000 in
theorem contract (H:Type) (enc:TypeId×Value->H) (W:World) (base:Nat) (args:Array Value) (ds gs:List (DataW H)) (before:List MemPlace)
 (hval:∀ (j:Nat) t v,Tryz.f3.params[j]? =some t->args[j]? =some v->Value.okWide Tryz.prog W .any base t v)
 (hW:DataW.Whole enc Tryz.prog Tryz.f3.params.toList Rows.rulesReadsSpec.vars false W args.toList ds gs before) (hk:Rows.uptoSmall H (ds++gs)=true) (hm:∃ m,W.cell? ⟨4,0,none⟩=some (.int .i64 m)) (hT:TW W):
 Calls Tryz.prog 3 args W λ e W'=>∃ v,e= .returned v/\Rows.rulesReadsSpec.post enc Tryz.prog Tryz.f3 false true false false W args v W':=by
 have hW':=hW;obtain⟨p,q,hA0,hV,rfl,hfz,hnd⟩:=hW;have hA:DataW.TrodAll enc Tryz.prog W 0 (λ _=>true) true Tryz.f3.params.toList args.toList ds p:=hA0;rw [Tryz.params3] at hA hval;obtain⟨v0,vs0,d0,ds0,p0,q0,hargs,rfl,rfl,h0,r0⟩:=trodAll_cons hA;obtain⟨rfl,rfl,rfl⟩:=trodAll_nil r0;obtain rfl:args=#[v0]:=by cases args;simp_all
 obtain⟨rfl,rfl⟩:=trodVars_none hV;obtain⟨a0,rfl,rfl,rfl,w0⟩:=open_string Tryz.underlying9 (hval 0 9 v0 rfl rfl) h0;clear hA0;simp only [List.append_nil] at hW' hk;have hb:Rows.uptoBulkAll (H:=H) [.lit (.string a0.data.toList)]<=1048576:=of_decide_eq_true hk;simp only [Rows.uptoBulkAll,Rows.uptoBulk,qX6] at hb;refine(walk a0 W w0 (by omega) hT hm).mono λ e W' ⟨he,hg⟩=> ?_
 subst he;exact⟨_,rfl,ZM7 (pa:= []) (pv:= []) hW' (λ _ _ _=>(trodAll_cons_mk (shut_bool Tryz.underlying4 _) trodAll_mk0)) (λ sp _=>(trodAll_cons_mk (shut_string Tryz.underlying9 w0) trodAll_mk0)) (λ _ _=>rfl) rfl hg (ok_one (by kernel_rfl) rfl (okWide_bool_mk Tryz.underlying4 _))⟩
def layObj (cs:Array Value):Obj->Obj
 | .cells _ t frozen=> .cells cs t frozen
 |o=>o
def layIn (w:World) (b:Nat) (cs:Array Value):World:= {w with heap:=w.heap.modify b (layObj cs)}
noncomputable def laidWorld (os:Os):World:=
 layIn (layIn (layIn (layIn (layIn (layIn (World.holding Tryz.prog os ⟨#[],#[],[]⟩) 7 (([128,191,160,191,128,159,144,191,128,143]++List.replicate 22 0).map λ n:Nat=>Value.int .u8 (n:Int)).toArray)
  3 (pwL.map λ s=>Value.string (str s)).toArray)
  0 (Jf7.map Value.string).toArray)
  2 (Zd4.map Value.string).toArray)
  1 (XF4.map Value.string).toArray)
  6 (Go.Pinned.utf8FirstZ.map λ n:Nat=>Value.int .u8 (n:Int)).toArray
theorem laid_met (os:Os):laidMet Tryz.prog Rows.rulesReadsUptoRow.laid ((laidWorld os).forCall (λ _ _=>0) ⟨#[],#[.string ByteArray.empty],[]⟩).memory:=
 laidMet_of_run' 8 (by kernel_rfl) (by kernel_rfl)
theorem reads (os:Os) {H:Type} (enc:TypeId×Value->H):∃ places,DataW.whole enc Tryz.prog ((laidWorld os).forCall (λ _ _=>0) ⟨#[],#[.string ByteArray.empty],[]⟩).memory Tryz.f3.params.toList Rows.rulesReadsSpec.vars false #[Value.string ByteArray.empty].toList 8=some ([.lit (.string [])],[],places):=
 ⟨[],by kernel_rfl⟩
set_option maxRecDepth 100000 in
theorem lifted (os:Os) (started:os.Started) (H:Type) (enc:TypeId×Value->H) (F:Stop.Interp):
 ReturnsInHanded {} Tryz.checked os 3 .any ((Rows.OpenSpec.upto Rows.rulesReadsSpec).preRow enc Tryz.prog Tryz.f3 Rows.rulesReadsUptoRow.domain false Rows.rulesReadsUptoRow.laid) (((Rows.OpenSpec.upto Rows.rulesReadsSpec).at F).post enc Tryz.prog Tryz.f3 false true false false):=by
 obtain⟨places,hx⟩:=reads os enc
 refine returnsInHanded_of_row (C:=Tryz.checked) (s:=Rows.OpenSpec.upto Rows.rulesReadsSpec) own started (by kernel_rfl) Tryz.func3
  (witness_row_at (enc:=enc) (C:=Tryz.checked) false (laidWorld os) #[.string ByteArray.empty] rfl (by kernel_rfl) (by kernel_rfl) (by kernel_rfl)
   (OpenSpec.preRow_of_cond 8 hx (by kernel_rfl) (λ k hk=>by cases hk;kernel_rfl) (by kernel_rfl) (laid_met os))) ?_
 intro W base args ds gs before hval hW _ hcond _ hlaid hsh _;exact contract H enc W base args ds gs before hval hW (hcond _ rfl) (cell_of_shapedOpen_int (zero:=#[.int .i64 0]) (t:=3) hsh (of_decide_eq_true (by kernel_rfl)) (by kernel_rfl) rfl (by kernel_rfl) (by kernel_rfl) Tryz.underlying3) (tw_of_laid hlaid)
theorem saidUpto:Rows.RulesReadsUptoSaid:=
 OpenClaim.holds_of_cond 3 Tryz.f3 rfl rfl rfl rfl rfl rfl rfl ⟨rfl,rfl,rfl,rfl,rfl⟩ rfl rfl rfl rfl rfl (by kernel_rfl) Tryz.func3 (by kernel_rfl)
  (of_decide_eq_true (by kernel_rfl)) (by unfold Func.isWrapper;first|(rw [if_pos (by decide+kernel)];kernel_rfl)|(rw [if_neg (by decide+kernel)];exact⟨rfl,rfl⟩))
  (λ os started H enc _ F=>by rw [OpenClaim.pre_eq_preRow];exact lifted os started H enc F)
theorem plain (f:FuncId) (fn:Func) (hf:Tryz.pinned.checked.prog.funcNamed "gatewicket/wicklaw.RulesReads"=some f) (hfn:Tryz.pinned.checked.prog.funcs[f]? =some fn):
 false=Tryz.pinned.checked.prog.looks []/\∀ (j:Nat) t,fn.params[j]? =some t->Tryz.pinned.checked.prog.wantsStandIn t=false:=by
 obtain rfl:f=3:=Option.some.inj ((show Tryz.prog.funcNamed "gatewicket/wicklaw.RulesReads"=some 3 by kernel_rfl).symm.trans hf)|>.symm
 obtain rfl:fn=Tryz.f3:=(Option.some.inj (Tryz.func3.symm.trans hfn)).symm;refine⟨by kernel_rfl,λ j t ht=> ?_⟩;rw [Tryz.params3] at ht;obtain rfl:t=9:=by simpa using Array.mem_of_getElem? ht
 exact(show Tryz.prog.wantsStandIn 9=false by kernel_rfl)
theorem card:Rows.RulesReadsUptoCardSaid:=
 Claim7.holds_tied_plain_at .later [] _ _ _ _ saidUpto (λ _ h=>by cases h) (by kernel_rfl) (λ _ h=>by cases h) rulesReadsUpto_row_tie rfl ⟨rfl,rfl⟩ (by kernel_rfl) rfl plain (by kernel_rfl)
#print axioms card
end Go.Proofs.YtngepacmgabmaaaGreatDoor.lawRul
