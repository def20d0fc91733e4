/- wicklaw.RulesSays: for all rules of bulk at most 1048576 rules.Check and rules.Print return what the reference returns; the card. Condition: that bulk. -/
import Derived.Test.YtngepacmgabmaaaGreatDoorCards
import Derived.Test.YtngepacmgabmaaaGreatDoorTie
import Derived.Test.YtngepacmgabmaaaGreatDoorGk
import Derived.Test.YtngepacmgabmaaaGreatDoorGay
import Derived.Deep.DeepHandedRow
import Derived.Lib.LaidTab
import Derived.LaidSub
import Derived.MakeChecks
namespace Go.Proofs.YtngepacmgabmaaaGreatDoor.lawSay
open Go.ChangeShapes Go.WideShapes Go.ChangeAt Go.RowKit Go.Joins
open Go.ChangeMaps (open_string shut_string)
set_option linter.unusedVariables false
set_option linter.unusedSimpArgs false
theorem strs_of_tab {H:Type} {enc:TypeId×Value->H} {P:Program} {w:World} {base:Nat} {sp:Nat->Bool} {held:Bool} {fuel:Nat} {t e:TypeId} {n:Nat} {cs:List Value} {ss:List (List UInt8)} {p:List MemPlace}
 (ht:P.underlying t=some (.array n e)) (he:P.underlying e=some .string) (hce:P.cellsOf e=1) (hct:P.cellsOf t=n)
 (h:DataW.trod enc P w base sp held fuel t cs=some (.agg (ss.map λ s=> .lit (.string s)),p)) (i:Nat) (hi:i<ss.length):cs[i]? =some (.string (str ss[i])):=by
 cases fuel with
 |zero=>simp [DataW.trod] at h
 |succ fuel=>
  simp only [DataW.trod,ht,hce,hct,Nat.mul_one] at h;split at h
  . rename_i hl
    obtain⟨xs,hm,hx⟩:=Option.map_eq_some_iff.1 h
    have hxs:xs.map (·.1)=ss.map λ s=>(DataW.lit (.string s):DataW H):=by
     have:=congrArg Prod.fst hx
     simpa using this
    have hxl:xs.length=n:=by simpa using Lib.mapM_length hm
    have hzl:ss.length=n:=by
     have:=congrArg List.length hxs;simp at this;omega
    have hin:i<n:=(by omega);obtain⟨b,hb,hf⟩:=Lib.mapM_at hm i i (by simp [hin]);obtain⟨z,hc,rfl,_⟩:=DataW.trod_string he hf
    have h1:cs[i]? =some (.string z):=by
     have:=congrArg (·[0]?) hc
     simpa [List.getElem?_take,List.getElem?_drop] using this
    have h2:(xs.map (·.1))[i]? =some (DataW.lit (.string z.data.toList):DataW H):=(by simp [hb]);rw [hxs,List.getElem?_map,List.getElem?_eq_getElem hi,Option.map_some] at h2;injection h2 with h2;injection h2 with h2;injection h2 with h2;rw [h1,h2]
  . cases h
theorem tb_of {W:World} {g:Nat} {L:List ByteArray} {cs:List Value} (h0:0<L.length) (hc:∀ i,W.cell? ⟨g,i,none⟩=cs[i]?) (h1:∀ i (hi:i<(L.map (·.data.toList)).length),cs[i]? =some (.string (str (L.map (·.data.toList))[i]))):TbW g L W:=by
 have h:∀ k,k<L.length->W.cell? ⟨g,k,none⟩=some (.string (L.getD k ByteArray.empty)):=λ k hk=>by
  rw [hc k,h1 k (by rw [List.length_map];exact hk),List.getElem_map];unfold List.getD;rw [List.getElem?_eq_getElem hk];rfl
 exact⟨World.block_lt_of_cell? _ _ (h 0 h0),h⟩
set_option maxRecDepth 100000 in
theorem tw_of_laid {W:World} (h:laidMetH Tryz.prog Rows.rulesSaysUptoRow.laid W):TW W/\TwI W:=by
 rw [MakeChecks.laidMetH_plain _ _ _ (by kernel_rfl)] at h;obtain⟨ps,hv,_,_⟩:=h;obtain⟨_,_,_,_,_,_,_,_,_,_,hu2,_⟩:=hv;obtain⟨_,_,_,_,_,_,_,_,_,_,hu3,_⟩:=hu2;obtain⟨g,t,cs,fuel,p,q,hg,ht,hvar,hd,hu4,_⟩:=hu3
 have TN:TwI W:=by
  obtain rfl:199=t:=Option.some.inj ((show (Tryz.prog.globals[5]?).map (·.type)=some 199 by kernel_rfl).symm.trans (by rw [show g=5 from (Option.some.inj ((show Tryz.prog.globalNamed "internal/strconv.uint64pow10"=some 5 by kernel_rfl).symm.trans hg)).symm] at ht;exact ht))
  show _=_;rw [hvar,<-Lib.cells_of_tab Tryz.underlying199 Tryz.underlying120 (by kernel_rfl) (by kernel_rfl) (zs:=Lib.pow10Tab) hd]
 clear hg ht hvar hd;obtain⟨_,_,_,_,_,_,_,_,_,_,hv2,_⟩:=hu4;obtain⟨g,t,cs,fuel,p,q,hg,ht,hvar,hd,hv3,_⟩:=hv2;obtain rfl:3=g:=Option.some.inj ((show Tryz.prog.globalNamed "gatewicket/wickref.pipeWords"=some 3 by kernel_rfl).symm.trans hg)
 obtain rfl:98=t:=Option.some.inj ((show (Tryz.prog.globals[3]?).map (·.type)=some 98 by kernel_rfl).symm.trans ht)
 have TP:PW W:=by
  have hc:∀ i,i<12->W.cell? ⟨3,i,none⟩=some (.string (pwB i)):=λ i hi=>by
   have h1:=strs_of_tab (ss:=pwL) Tryz.underlying98 Tryz.underlying9 (by kernel_rfl) (by kernel_rfl) hd i hi;have h2:=World.var?_cell hg hvar i;rw [<-Array.getElem?_toList] at h2;rw [h2,h1];unfold pwB List.getD;rw [List.getElem?_eq_getElem (show i<pwL.length from hi)];rfl
  exact⟨World.block_lt_of_cell? _ _ (hc 0 (by omega)),hc⟩
 clear hg ht hvar hd;obtain⟨g,t,cs,fuel,p,q,hg,ht,hvar,hd,hv4,_⟩:=hv3;obtain rfl:0=g:=Option.some.inj ((show Tryz.prog.globalNamed "gatewicket/wickref.varWords"=some 0 by kernel_rfl).symm.trans hg)
 obtain rfl:60=t:=Option.some.inj ((show (Tryz.prog.globals[0]?).map (·.type)=some 60 by kernel_rfl).symm.trans ht);have TV:TbW 0 Jf7 W:=tb_of (by decide) (λ i=>by have h2:=World.var?_cell hg hvar i;rw [<-Array.getElem?_toList] at h2;exact h2) λ i hi=>strs_of_tab (ss:=Jf7.map (·.data.toList)) Tryz.underlying60 Tryz.underlying9 (by kernel_rfl) (by kernel_rfl) hd i hi
 clear hg ht hvar hd;obtain⟨g,t,cs,fuel,p,q,hg,ht,hvar,hd,hv5,_⟩:=hv4;obtain rfl:2=g:=Option.some.inj ((show Tryz.prog.globalNamed "gatewicket/wickref.opWords"=some 2 by kernel_rfl).symm.trans hg)
 obtain rfl:60=t:=Option.some.inj ((show (Tryz.prog.globals[2]?).map (·.type)=some 60 by kernel_rfl).symm.trans ht);have TO:TbW 2 Zd4 W:=tb_of (by decide) (λ i=>by have h2:=World.var?_cell hg hvar i;rw [<-Array.getElem?_toList] at h2;exact h2) λ i hi=>strs_of_tab (ss:=Zd4.map (·.data.toList)) Tryz.underlying60 Tryz.underlying9 (by kernel_rfl) (by kernel_rfl) hd i hi
 clear hg ht hvar hd;obtain⟨g,t,cs,fuel,p,q,hg,ht,hvar,hd,hv6,_⟩:=hv5;obtain rfl:1=g:=Option.some.inj ((show Tryz.prog.globalNamed "gatewicket/wickref.actWords"=some 1 by kernel_rfl).symm.trans hg)
 obtain rfl:61=t:=Option.some.inj ((show (Tryz.prog.globals[1]?).map (·.type)=some 61 by kernel_rfl).symm.trans ht);have TA:TbW 1 XF4 W:=tb_of (by decide) (λ i=>by have h2:=World.var?_cell hg hvar i;rw [<-Array.getElem?_toList] at h2;exact h2) λ i hi=>strs_of_tab (ss:=XF4.map (·.data.toList)) Tryz.underlying61 Tryz.underlying9 (by kernel_rfl) (by kernel_rfl) hd i hi
 clear hg ht hvar hd;exact⟨⟨TV,TO,TA,TP⟩,TN⟩
set_option maxRecDepth 100000 in
theorem open_rules {Hh:Type} {enc:TypeId×Value->Hh} {W:World} {v:Value} {d:DataW Hh} {p:List MemPlace} {base:Nat}
 (hv:Value.okWide Tryz.prog W .any base 24 v) (h:DataW.Trod enc Tryz.prog W 0 (λ _=>true) true 24 v d p) (hb:Rows.uptoBulk d<=1048576):
 ∃ (most st:Int) (A:Option Addr) (cap:Nat) (l:List Ru),v= .agg #[.int .i64 most,.int .i64 st,.slice A l.length cap]/\RuR W W.heap.size A cap l:=by
 obtain⟨v0,v1,v2,y0,y1,y2,n,rfl,rfl,hd,h0,h1,h2⟩:=open_agg3 Tryz.underlying24 (by kernel_rfl) (by kernel_rfl) hv h;obtain⟨most,e0,_⟩:=DataW.trod_int Tryz.underlying3 h0;obtain⟨st,e1,_⟩:=DataW.trod_int Tryz.underlying3 h1;simp only [Rows.uptoBulk,Rows.uptoBulkAll] at hb;obtain⟨A,cap,l,rfl,hr⟩:=QC0 h2 (by omega);simp only [List.cons.injEq,and_true] at e0 e1;subst e0;subst e1;exact⟨most,st,A,cap,l,rfl,hr⟩
set_option maxRecDepth 100000 in
set_option maxHeartbeats 2000000 in
theorem walk (most st:Int) (l:List Ru) (A:Option Addr) (cap:Nat) (w:World) (h:RuR w w.heap.size A cap l) (hT:TW w) (hI:TwI w) (hm:∃ m,w.cell? ⟨4,0,none⟩=some (.int .i64 m)):
 Calls Tryz.prog 4 #[.agg #[.int .i64 most,.int .i64 st,.slice A l.length cap]] w λ e w'=>e= .returned (.bool true)/\Below w.heap.size w w':=by
 obtain⟨m,hm⟩:=hm;have HA:∀ w',Below w.heap.size w w'->ArgOk 72 YX5 w':=λ w' hb=>(XU1 hm).below hb
 obtain⟨W,hW⟩:∃ W,w.alloc (.cells #[.int .i64 most,.int .i64 st,.slice A l.length cap] 24)=W:=⟨_,rfl⟩;have hb0:Below w.heap.size w W:=by rw [<-hW];exact(Below.refl _ _).alloc (Nat.le_refl _) _
 have hk:Blk W w.heap.size 24 #[.int .i64 most,.int .i64 st,.slice A l.length cap]:=by rw [<-hW];exact Blk.new _ _ _
 have hlt:=Blk.lt hk;have HK:=qh hk;have HC:Hid (∀ w',Below W.heap.size W w'->w'.cell? ⟨w.heap.size,0,none⟩=some (.int .i64 most)/\w'.cell? ⟨w.heap.size,1,none⟩=some (.int .i64 st)/\w'.cell? ⟨w.heap.size,2,none⟩=some (.slice A l.length cap)):=qh λ w' h=>⟨(HK.out.below h hlt).cell 0,(HK.out.below h hlt).cell 1,(HK.out.below h hlt).cell 2⟩
 have HBe:=qh λ w' (h:Below W.heap.size W w')=>hb0.trans (h.mono hb0.size)
 have CR:=qh (KR1 YX5 most st l A cap w.heap.size W (h.kept hb0) yx2);have CP:=qh λ w' (h2:Below W.heap.size W w')=>YY3 YX5 most st l A cap w.heap.size w' (h.kept (HBe.out w' h2)) (hI.below (HBe.out w' h2)) λ w3 h3=>HA w3 ((HBe.out w' h2).trans (h3.mono (HBe.out w' h2).size))
 have CC:=qh λ w' (h2:Below W.heap.size W w')=>kC7 YX5 most st l A cap w.heap.size w' (h.kept (HBe.out w' h2)) (HA w' (HBe.out w' h2))
 have CT:=qh λ w' (h2:Below W.heap.size W w') (h0:QR3 YX5 most st l=0)=>x03 YX5 most st l A cap w.heap.size w' (h.kept (HBe.out w' h2)) (hT.below (HBe.out w' h2)) (hI.below (HBe.out w' h2)) h0
 obtain⟨E,hE⟩:∃ E,E=QR3 YX5 most st l:=⟨_,rfl⟩;rw [<-hE] at CR CP CC CT;have e1:(E==E)=true:=by simp
 obtain⟨t0,t1,t2⟩:=HC.out W (Below.refl _ _);clear h hT hI hm HA hE hb0 hk;by_cases h0:E=0
 . have q:(E==0)=true:=(by rw [h0];rfl);have HP0:Hid (prT E most st l=str (xj5 most st l)):=qh (if_pos h0);rw [HP0.out] at CP;have CT2:=qh λ w' hb=>CT.out w' hb h0
   obtain⟨T,hT⟩:∃ T,T=str (xj5 most st l):=⟨_,rfl⟩;rw [<-hT] at CP CT2;have e2:(T.toList==T.toList)=true:=(by simp);clear h0 HP0 CT hT;go_enter Tryz.func4,Tryz.ntmps4;go_wp2_with fail;refine CR.out.mono ?_;rintro e w1 ⟨rfl,b1⟩;have HB1:=qh b1;obtain⟨s0,s1,s2⟩:=HC.out _ b1;clear b1 CR t0 t1 t2;go_wp2_with fail;refine(CT2.out _ HB1.out).mono ?_;rintro e w2 ⟨rfl,b2⟩;have HB2:=qh (HB1.out.trans (b2.mono HB1.out.size));obtain⟨t0,t1,t2⟩:=HC.out _ HB2.out;clear b2 CT2 s0 s1 s2;go_wp2_with fail;refine(CP.out _ HB2.out).mono ?_;rintro e w3 ⟨rfl,b3⟩;have HB3:=qh (HB2.out.trans (b3.mono HB2.out.size));obtain⟨s0,s1,s2⟩:=HC.out _ HB3.out;clear b3 CP t0 t1 t2;go_wp2_with fail;refine(CC.out _ HB3.out).mono ?_;rintro e w4 ⟨rfl,b4⟩;have HB4:=qh (HB3.out.trans (b4.mono HB3.out.size));clear b4 CC s0 s1 s2;go_wp2_with fail;go_ret;exact⟨rfl,HBe.out _ HB4.out⟩
 . have q:(E==0)=false:=(by rw [beq_eq_false_iff_ne];exact h0);have HP0:Hid (prT E most st l=⟨#[]⟩):=qh (if_neg h0);rw [HP0.out] at CP;clear h0 HP0 CT;go_enter Tryz.func4,Tryz.ntmps4;go_wp2_with fail;refine CR.out.mono ?_;rintro e w1 ⟨rfl,b1⟩;have HB1:=qh b1;obtain⟨s0,s1,s2⟩:=HC.out _ b1;clear b1 CR t0 t1 t2;go_wp2_with fail;refine(CP.out _ HB1.out).mono ?_;rintro e w3 ⟨rfl,b3⟩;have HB3:=qh (HB1.out.trans (b3.mono HB1.out.size));obtain⟨t0,t1,t2⟩:=HC.out _ HB3.out;clear b3 CP s0 s1 s2;go_wp2_with fail;refine(CC.out _ HB3.out).mono ?_;rintro e w4 ⟨rfl,b4⟩;have HB4:=qh (HB3.out.trans (b4.mono HB3.out.size));clear b4 CC t0 t1 t2;go_wp2_with fail;go_ret;exact⟨rfl,HBe.out _ HB4.out⟩
theorem own:ownKnob Tryz.prog.godebug=none:=by kernel_rfl
set_option maxRecDepth 100000 in
theorem contract (H:Type) (enc:TypeId×Value->H) (W:World) (base:Nat) (args:Array Value) (ds gs:List (DataW H)) (before:List MemPlace)
 (hval:∀ (j:Nat) t v,Tryz.f4.params[j]? =some t->args[j]? =some v->Value.okWide Tryz.prog W .any base t v)
 (hW:DataW.Whole enc Tryz.prog Tryz.f4.params.toList Rows.rulesSaysSpec.vars false W args.toList ds gs before) (hk:Rows.uptoSmall H (ds++gs)=true) (hm:∃ m,W.cell? ⟨4,0,none⟩=some (.int .i64 m)) (hT:TW W/\TwI W):
 Calls Tryz.prog 4 args W λ e W'=>∃ v,e= .returned v/\Rows.rulesSaysSpec.post enc Tryz.prog Tryz.f4 false true false false W args v W':=by
 have hW':=hW;obtain⟨p,q,hA0,hV,rfl,hfz,hnd⟩:=hW;have hA:DataW.TrodAll enc Tryz.prog W 0 (λ _=>true) true Tryz.f4.params.toList args.toList ds p:=hA0;rw [Tryz.params4] at hA hval;obtain⟨v0,vs0,d0,ds0,p0,q0,hargs,rfl,rfl,h0,r0⟩:=trodAll_cons hA;obtain⟨rfl,rfl,rfl⟩:=trodAll_nil r0;obtain rfl:args=#[v0]:=by cases args;simp_all
 obtain⟨rfl,rfl⟩:=trodVars_none hV;clear hA0;simp only [List.append_nil] at hk;have hb:Rows.uptoBulkAll (H:=H) [d0]<=1048576:=of_decide_eq_true hk;simp only [Rows.uptoBulkAll] at hb;obtain⟨most,st,A,cap,l,rfl,hr⟩:=open_rules (hval 0 24 v0 rfl rfl) h0 (by omega);refine(walk most st l A cap W hr hT.1 hT.2 hm).mono λ e W' ⟨he,hg⟩=> ?_
 subst he;exact⟨_,rfl,JE0 4 Tryz.underlying4 (by kernel_rfl) (by kernel_rfl) (by kernel_rfl) rfl rfl hW' hg⟩
def layObj (cs:Array Value):Obj->Obj
 | .cells _ t frozen=> .cells cs t frozen
 |o=>o
def layIn (w:World) (b:Nat) (cs:Array Value):World:= {w with heap:=w.heap.modify b (layObj cs)}
noncomputable def laidWorld (os:Os):World:=
 layIn (layIn (layIn (layIn (layIn (layIn (layIn (layIn (layIn (World.holding Tryz.prog os ⟨#[],#[],[]⟩) 5 ([1,10,100,1000,10000,100000,1000000,10000000,100000000,1000000000,10000000000,100000000000,1000000000000,10000000000000,100000000000000,1000000000000000,10000000000000000,100000000000000000,1000000000000000000,10000000000000000000].map λ n:Nat=>Value.int .u64 (n:Int)).toArray) 9 ([0,1,56,2,57,49,28,3,61,58,42,50,38,29,17,4,62,47,59,36,45,43,51,22,53,39,33,30,24,18,12,5,63,55,48,27,60,41,37,16,46,35,44,21,52,32,23,11,54,26,40,15,34,20,31,10,25,14,19,9,13,8,7,6].map λ n:Nat=>Value.int .u8 (n:Int)).toArray) 8 ([0,1,28,2,29,14,24,3,30,22,20,15,25,17,4,8,31,27,13,23,21,19,16,7,26,12,18,6,11,5,10,9].map λ n:Nat=>Value.int .u8 (n:Int)).toArray) 7 (([128,191,160,191,128,159,144,191,128,143]++List.replicate 22 0).map λ n:Nat=>Value.int .u8 (n:Int)).toArray)
  3 (pwL.map λ s=>Value.string (str s)).toArray)
  0 (Jf7.map Value.string).toArray)
  2 (Zd4.map Value.string).toArray)
  1 (XF4.map Value.string).toArray)
  6 (Go.Pinned.utf8FirstZ.map λ n:Nat=>Value.int .u8 (n:Int)).toArray
theorem laid_met (os:Os):laidMet Tryz.prog Rows.rulesSaysUptoRow.laid ((laidWorld os).forCall (λ _ _=>0) ⟨#[],#[.agg #[.int .i64 0,.int .i64 0,.slice none 0 0]],[]⟩).memory:=
 laidMet_of_run' 8 (by kernel_rfl) (by kernel_rfl)
theorem reads (os:Os) {H:Type} (enc:TypeId×Value->H):∃ places,DataW.whole enc Tryz.prog ((laidWorld os).forCall (λ _ _=>0) ⟨#[],#[.agg #[.int .i64 0,.int .i64 0,.slice none 0 0]],[]⟩).memory Tryz.f4.params.toList Rows.rulesSaysSpec.vars false #[Value.agg #[.int .i64 0,.int .i64 0,.slice none 0 0]].toList 8=some ([.agg [.lit (.int .i64 0),.lit (.int .i64 0),.nil]],[],places):=
 ⟨[],by kernel_rfl⟩
set_option maxRecDepth 100000 in
theorem lifted (os:Os) (started:os.Started) (H:Type) (enc:TypeId×Value->H) (F:Stop.Interp):
 ReturnsInHanded {} Tryz.checked os 4 .any ((Rows.OpenSpec.upto Rows.rulesSaysSpec).preRow enc Tryz.prog Tryz.f4 Rows.rulesSaysUptoRow.domain false Rows.rulesSaysUptoRow.laid) (((Rows.OpenSpec.upto Rows.rulesSaysSpec).at F).post enc Tryz.prog Tryz.f4 false true false false):=by
 obtain⟨places,hx⟩:=reads os enc
 refine returnsInHanded_of_row (C:=Tryz.checked) (s:=Rows.OpenSpec.upto Rows.rulesSaysSpec) own started (by kernel_rfl) Tryz.func4
  (witness_row_at (enc:=enc) (C:=Tryz.checked) false (laidWorld os) #[.agg #[.int .i64 0,.int .i64 0,.slice none 0 0]] rfl (by kernel_rfl) (by kernel_rfl) (by kernel_rfl)
   (OpenSpec.preRow_of_cond 8 hx (by kernel_rfl) (λ k hk=>by cases hk;kernel_rfl) (by kernel_rfl) (laid_met os))) ?_
 intro W base args ds gs before hval hW _ hcond _ hlaid hsh _;exact contract H enc W base args ds gs before hval hW (hcond _ rfl) (cell_of_shapedOpen_int (zero:=#[.int .i64 0]) (t:=3) hsh (of_decide_eq_true (by kernel_rfl)) (by kernel_rfl) rfl (by kernel_rfl) (by kernel_rfl) Tryz.underlying3) (tw_of_laid hlaid)
theorem saidUpto:Rows.RulesSaysUptoSaid:=
 OpenClaim.holds_of_cond 4 Tryz.f4 rfl rfl rfl rfl rfl rfl rfl ⟨rfl,rfl,rfl,rfl,rfl⟩ rfl rfl rfl rfl rfl (by kernel_rfl) Tryz.func4 (by kernel_rfl)
  (of_decide_eq_true (by kernel_rfl)) (by unfold Func.isWrapper;first|(rw [if_pos (by decide+kernel)];kernel_rfl)|(rw [if_neg (by decide+kernel)];exact⟨rfl,rfl⟩))
  (λ os started H enc _ F=>by rw [OpenClaim.pre_eq_preRow];exact lifted os started H enc F)
theorem plain (f:FuncId) (fn:Func) (hf:Tryz.pinned.checked.prog.funcNamed "gatewicket/wicklaw.RulesSays"=some f) (hfn:Tryz.pinned.checked.prog.funcs[f]? =some fn):
 false=Tryz.pinned.checked.prog.looks []/\∀ (j:Nat) t,fn.params[j]? =some t->Tryz.pinned.checked.prog.wantsStandIn t=false:=by
 obtain rfl:f=4:=Option.some.inj ((show Tryz.prog.funcNamed "gatewicket/wicklaw.RulesSays"=some 4 by kernel_rfl).symm.trans hf)|>.symm
 obtain rfl:fn=Tryz.f4:=(Option.some.inj (Tryz.func4.symm.trans hfn)).symm;refine⟨by kernel_rfl,λ j t ht=> ?_⟩;rw [Tryz.params4] at ht
 have ht2:t=24:=by
  have:=Array.mem_of_getElem? ht;simp at this;(first|exact this|(rcases this with h<;>simp [h]))
 rcases ht2 with rfl
 . exact(show Tryz.prog.wantsStandIn 24=false by kernel_rfl)
theorem card:Rows.RulesSaysUptoCardSaid:=
 Claim7.holds_tied_plain_at .later [] _ _ _ _ saidUpto (λ _ h=>by cases h) (by kernel_rfl) (λ _ h=>by cases h) rulesSaysUpto_row_tie rfl ⟨rfl,rfl⟩ (by kernel_rfl) rfl plain (by kernel_rfl)
#print axioms card
end Go.Proofs.YtngepacmgabmaaaGreatDoor.lawSay
