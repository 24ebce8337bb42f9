/- Be: PlanFit, Txn4, Txn6, Jour3, Txn7, Lay5. -/
import Derived.Test.YtmiilfnchfdfcaaGreatDoorBeTxn3
set_option maxRecDepth 100000
set_option maxHeartbeats 40000000
set_option linter.unusedVariables false
namespace Go.Proofs.YtmiilfnchfdfcaaGreatDoor
section
open Go.RowKit Go.Shelf
attribute [local go_sem] Ad Af Ag Ab Ai Ah Oper.semAt_some
namespace Pn
def OkNext (l:List (Int×List UInt8))(x:Int×List UInt8):Prop:=sectorOk x.1=true/\x.1∉l.map (·.1)/\x.2.length=64
def OkSeq (l:List (Int×List UInt8)):Prop:=∀i (hi:i<l.length),OkNext (l.take i) l[i]
theorem OkSeq.snoc {l:List (Int×List UInt8)}(h:OkSeq l){x:Int×List UInt8}(hx:OkNext l x):OkSeq (l++[x]):=by
 intro i hi
 rcases Nat.lt_or_ge i l.length with h1|h1
 · have:=h i h1;rw[List.getElem_append_left h1,List.take_append_of_le_length (by omega)];exact this
 · obtain rfl:i=l.length:=by simp at hi;omega
   rw[List.getElem_append_right (Nat.le_refl _),List.take_append_of_le_length (Nat.le_refl _),List.take_length];simpa using hx
theorem It {L:Pn}(h:L.targets.length=L.data.length)(i:Nat):(L.secs.take i).map (·.1)=L.targets.take i:=by
 rw[List.map_take,Pn.secs,List.map_fst_zip (by omega)]
theorem Gm {L:Pn}{i:Nat}(hi:i<L.targets.length):L.find L.targets[i]=i↔L.targets[i]∉L.targets.take i:=by
 have hm:L.targets[i]∈L.targets:=List.getElem_mem hi;obtain⟨j,hj,e1,e2,e3⟩:=find_in hm;rw[e1];constructor
 · intro h hmem;have h:j=i:=by omega
   subst h;obtain⟨k,hk,ek⟩:=List.getElem_of_mem hmem;rw[List.length_take]at hk;rw[List.getElem_take]at ek;have a0:k<List.findIdx (· ==L.targets[j]) L.targets:=by
    have:List.findIdx (· ==L.targets[j]) L.targets=j:=e3;omega
   have:=List.not_of_lt_findIdx a0;simp[ek]at this
 · intro h
   rcases Nat.lt_trichotomy j i with h1|h1|h1
   · refine absurd ?_ h;rw[List.mem_take_iff_getElem];exact⟨j,by omega,e2⟩
   · rw[h1]
   · have:=List.not_of_lt_findIdx (xs:=L.targets) (p:=(· ==L.targets[i])) (i:=i) (by have:List.findIdx (· ==L.targets[i]) L.targets=j:=e3;omega);simp at this
theorem fit_of_all {L:Pn}(h1:L.targets.length=L.data.length)(h2:L.targets.length<=24)(h:OkSeq L.secs):L.fit=true:=by
 refine fit_iff.2 ⟨h1,h2,fun i hi=>?_,fun i hi=>?_⟩
 · have hs:i<L.secs.length:=by rw[Ct L h1];exact hi
   obtain⟨m1,m2,e⟩:=BU L i hs;have:=h i hs;rw[e,OkNext,It h1]at this;exact⟨this.1,(Gm hi).2 this.2.1⟩
 · have hs:i<L.secs.length:=by rw[Ct L h1];omega
   obtain⟨m1,m2,e⟩:=BU L i hs;have:=h i hs;rw[e]at this;exact this.2.2
theorem fit_not_at {L:Pn}{i:Nat}(hi:i<L.secs.length)(h:¬OkNext (L.secs.take i) L.secs[i]):L.fit=false:=by
 refine fit_no fun hf=>h ?_
 obtain⟨m1,m2,e⟩:=BU L i hi;rw[e,OkNext,It hf.1];exact⟨(hf.2.2.1 i m1).1,(Gm m1).1 (hf.2.2.1 i m1).2,hf.2.2.2 i m2⟩
end Pn
theorem QT {x:Int}(h: -9223372036854775808<=x/\x<=9223372036854775807):(Lit.int .i64 x).wf=true:=by
 simp only[Lit.wf,Bool.and_eq_true,decide_eq_true_eq];exact h
theorem Lu (P:Program)(w:World)(t tb ti tm:TypeId)(c:Array Value){V:World}(e:V=(((((w.alloc (.cells c t)).alloc (.cells #[.bool false] tb)).alloc (.map #[] 0)).alloc (.cells #[.map (some (w.heap.size+1+1))] tm)).alloc (.cells c t)):=by rfl):
 Below w.heap.size w V/\Blk V (w.heap.size+1) tb #[.bool false]/\Blk V (w.heap.size+1+1+1) tm #[.map (some (w.heap.size+1+1))]/\Seen P ti tb V (w.heap.size+1+1) 0 []/\Blk V (w.heap.size+1+1+1+1) t c:=by
 subst e;have b1:=Blk.new (w.alloc (.cells c t)) tb #[.bool false];have b3:=Blk.new (((w.alloc (.cells c t)).alloc (.cells #[.bool false] tb)).alloc (.map #[] 0)) tm #[.map (some (w.heap.size+1+1))];have b4:=Blk.new ((((w.alloc (.cells c t)).alloc (.cells #[.bool false] tb)).alloc (.map #[] 0)).alloc (.cells #[.map (some (w.heap.size+1+1))] tm)) t c;have sn:=World.ownsMap_made (H:=Unit) ((w.alloc (.cells c t)).alloc (.cells #[.bool false] tb)) P ti (plainElem P tb);simp only[Ys]at b1 b3 b4 sn;exact⟨((((((Below.refl _ w).alloc (Nat.le_refl _) _).alloc (by simp) _).alloc (by simp;omega) _).alloc (by simp;omega) _).alloc (by simp;omega) _),((b1.alloc _).alloc _).alloc _,b3.alloc _,(sn.alloc _).alloc _,b4⟩
theorem M0 (L:Pn)(p' q':Pl)(w:World)(hL:IsPn w L p' q')(h:L.targets.length≠L.data.length\/24<L.targets.length):
 CR 144 #[pval L p' q'] w (.bool L.fit):=by
 have Hf:=hid (show L.fit=false by refine Pn.fit_no fun hf=>?_;have:=hf.1;have:=hf.2.1;omega);have a0:=hL.pm;have a2:=hL.pc;have a1:=hL.qm;have a3:=hL.qc;unfold maxLen at a0 a1;obtain⟨B1,b1⟩:=p';obtain⟨B2,b2⟩:=q';simp only at a0 a1 a2 a3;have zb:=(Blk.new (w.alloc (.cells #[.slice B1 L.targets.length b1,.slice B2 L.data.length b2] 63)) 4 #[.bool false]);rw[World.size_alloc]at zb;have z0:=blk1 zb;by_cases h1:L.targets.length=L.data.length
 · have h2:24<L.targets.length:=by omega
   have g1:((L.targets.length:Int) !=(L.data.length:Int))=false:=by simp[h1]
   have g2:decide ((24:Int)<(L.targets.length:Int))=true:=by simp;omega
   have g3:(24:Int)<(L.targets.length:Int):=by omega
   clear h h1 h2;go_enter Tryz.func144,Tryz.ntmps144;go_wp2_with fail
   refine bodyPost_ret (v:=.bool false) (by simp[results,Tryz.results144,go_sem,z0]) rfl ?_;exact⟨by rw[Hf.out],Aq _ _ _⟩
 · have g1:((L.targets.length:Int) !=(L.data.length:Int))=true:=by simp;omega
   clear h h1;go_enter Tryz.func144,Tryz.ntmps144;go_wp2_with fail
   refine bodyPost_ret (v:=.bool false) (by simp[results,Tryz.results144,go_sem,z0]) rfl ?_;exact⟨by rw[Hf.out],Aq _ _ _⟩
theorem M1 (L:Pn)(p' q':Pl)(w:World)(hL:IsPn w L p' q')(h1:L.targets.length=L.data.length)(h2:L.targets.length<=24):
 CR 144 #[pval L p' q'] w (.bool L.fit):=by
 have n1:1<=6:=by omega
 have ah:=@run_makeMap Tryz.prog;have a8:=fun(W:World)(hb:Below w.heap.size w W)=>(hL.below hb:IsPn W L p' q')
 have g1:((L.targets.length:Int) !=(L.data.length:Int))=false:=by simp[h1]
 have g2:decide ((24:Int)<(L.targets.length:Int))=false:=by simp;omega
 have g3:(L.targets.length:Int)<=24:=by omega
 have a2:=hid h1;have a1:=hid h2;clear hL h1 h2;obtain⟨B1,b1⟩:=p';obtain⟨B2,b2⟩:=q';refine(callsIn_wide (n:=6)).1 (callsIn_of_wp_marks Tryz.func144 rfl trivial (wpIn_wide.2 ?_) rfl);simp only[Tryz.ntmps144,Nat.reduceAdd,Nat.reduceSub,Yn];go_wp2_with (go_at_call 174;refine(callsIn_wide.1 (Iu 5 L ⟨B1,b1⟩ ⟨B2,b2⟩ _)).mono ?_;rintro e w3 ⟨rfl,rfl⟩)
 obtain⟨hB,b0,mb,sn,bp⟩:=Lu Tryz.prog w 63 4 3 227 #[.slice B1 L.targets.length b1,.slice B2 L.data.length b2];generalize (((((w.alloc (.cells #[.slice B1 L.targets.length b1,.slice B2 L.data.length b2] 63)).alloc (.cells #[.bool false] 4)).alloc (.map #[] 0)).alloc (.cells #[.map (some (w.heap.size+1+1))] 227)).alloc (.cells #[.slice B1 L.targets.length b1,.slice B2 L.data.length b2] 63))=V at*;have vl:w.heap.size+1+1+1+1<V.heap.size:=bp.lt;have a4:∀g∈[w.heap.size+1+1+1+1],g<V.heap.size/\w.heap.size+1+1+1<g:=fun g hg=>by
  simp only[List.mem_cons,List.not_mem_nil,or_false]at hg;omega
 have a3:=hid (fun(y:Fin L.secs.length)=>show(Lit.int .i64 L.secs[y.val].1).wf=true/\L.secs[y.val].2.length<=9223372036854775807 by
  obtain⟨m1,m2,e⟩:=BU L y.val y.isLt;have hP:=a8 V hB;rw[e];exact⟨QT (hP.ats _ (List.getElem_mem m1)),hP.strs _ (List.getElem_mem m2)⟩)
 refine(wpIn_wide (n:=6)).1 ?_;refine ET rfl n1 (gf:=189) (lb:=#[.pointer (some ⟨w.heap.size+1+1+1+1,0,none⟩)]) rfl trivial (enters_of Tryz.func189 (by kernel_rfl) rfl)
  (Iv 5 (by omega) L ⟨B1,b1⟩ ⟨B2,b2⟩ a2.out (by have:=a1.out;omega) w.heap.size _ V hB.size (fun W hb=>a8 W (hB.trans hb)) bp)
  KeepB.trans (fun W l o o' q1 q2 q3 q4=>KeepB.putObj o' (by omega) (fun g hg=>by have:=a4 g hg;omega)) (Below.refl _ _) (fun _=>rfl)
  (fun pre W=>Blk W (w.heap.size+1) 4 #[.bool false]/\Blk W (w.heap.size+1+1+1) 227 #[.map (some (w.heap.size+1+1))]/\Seen Tryz.prog 3 4 W (w.heap.size+1+1) pre.length ((picked L.secs pre).map (·.1))/\Hid (Pn.OkSeq (picked L.secs pre))/\Below w.heap.size w W/\V.heap.size<=W.heap.size)
  (fun c pre W=>c=.ret/\(∃pre' y,pre=pre'++[y]/\Hid (¬Pn.OkNext (picked L.secs pre') L.secs[y.val]))/\Blk W (w.heap.size+1) 4 #[.bool false]/\Below w.heap.size w W)
  ?hI ?hIx ?h0
  (fun y a' W=>a'={tmps:=#[pval L ⟨B1,b1⟩ ⟨B2,b2⟩,.pointer (some ⟨w.heap.size,0,none⟩),.pointer (some ⟨w.heap.size+1,0,none⟩),.pointer (some ⟨w.heap.size+1+1+1,0,none⟩),.int .i64 L.secs[y.val].1,.string (bs L.secs[y.val].2),.pointer (some ⟨w.heap.size,0,none⟩),.slice B1 L.targets.length b1,.int .i64 L.targets.length,.pointer (some ⟨w.heap.size,1,none⟩),.slice B2 L.data.length b2,.int .i64 L.data.length,.bool false,.bool false,.pointer (some ⟨w.heap.size,0,none⟩),.slice B1 L.targets.length b1,.int .i64 L.targets.length,.bool false,.bool false,.map (some (w.heap.size+1+1)),.agg #[.slice B1 L.targets.length b1,.slice B2 L.data.length b2],.func (.func 189) #[] #[.pointer (some ⟨w.heap.size+1+1+1+1,0,none⟩)],.int .i64 L.secs[y.val].1,.string (bs L.secs[y.val].2),undef,undef,undef,undef,undef,undef,undef,undef,undef,undef,undef,undef,undef,undef],defers:=[]})
  (fun _ _ _ _ _ _ hs _ _=>hs) ?assign ?body ?done ?stop
 case hI=>
  rintro pre X Y row ⟨h1,h2,h3,h4,h5,h6⟩ hy hr;exact⟨(Own.from (AE _ _ (fun _:Unit=>_)) _) () X Y row h1 hy hr,(Own.from (AE _ _ (fun _:Unit=>_)) _) () X Y row h2 hy hr,h3.at_ (hy.block _ (by omega) (fun e=>by have:=(hr _ e.symm).1;omega)),h4,ownFrom_below (β:=Unit) (Nat.le_refl _) hB.size () X Y row h5 hy hr,Nat.le_trans h6 hy.size⟩
 case hIx=>
  rintro c pre X Y row ⟨h0,h1,h2,h3⟩ hy hr;exact⟨h0,h1,(Own.from (AE _ _ (fun _:Unit=>_)) _) () X Y row h2 hy hr,ownFrom_below (β:=Unit) (Nat.le_refl _) hB.size () X Y row h3 hy hr⟩
 case h0=>exact⟨b0,mb,sn,hid (fun i hi=>by simp[picked]at hi),hB,Nat.le_refl _⟩
 case assign=>
  rintro l pre y W K hI hK
  dsimp only[secEnc]
  gi_wp2
  exact hK _ _ (KeepsFrom.refl _ _) (Stays.refl _ _) (KeepB.refl _ _ _) hI rfl
 case body=>
  rintro l pre y a' W ⟨h1,h2,h3,hok,hb,hs⟩ rfl hpl;have a5:=h3.look (tm:=227) Tryz.underlying3 Tryz.underlying4 Tryz.underlying227 (by kernel_rfl) (a3.out y).1;have a9:=(a3.out y).1;have ae:=(a3.out y).2;have aa:=hid (fun(h:Pn.OkNext (picked L.secs pre) L.secs[y.val])=>show Pn.OkSeq (picked L.secs (pre++[y])) by rw[BJ];exact hok.out.snoc h);have a6:=hid (show seenD (((picked L.secs pre).map (·.1))++[L.secs[y.val].1])=seenD ((picked L.secs (pre++[y])).map (·.1)) by rw[BJ];simp);generalize hz:L.secs[y.val]=z at*;obtain⟨k,s⟩:=z;have Hz:=hid hz;have ac:=blk1 h1;have ab:=h1.frozen 0;have af:=blk1 h2;have a0:=CJ k W;clear hz;simp only at a5 a9 ae a6;cases hA:sectorOk k with
  |false=>
   have He:=hid (show¬Pn.OkNext (picked L.secs pre) (k,s)from fun h=>by have:=h.1;rw[hA]at this;cases this);rw[hA]at a0;clear hA
   gi_wp2
   refine⟨trivial,(CallsIn.inRound l (callsIn_wide.2 a0)).mono ?_⟩;rintro e W2 ⟨rfl,rfl⟩
   gi_wp2
   exact⟨(KeepsOthers.setCell _ _ _).from _,rfl,⟨pre,y,rfl,hid (by rw[Hz.out];exact He.out)⟩,h1.set 0 _,hb.setCell (p:=⟨w.heap.size+1,0,none⟩) (by simp) _⟩
  |true=>
   rw[hA]at a0;by_cases hBm:k∈(picked L.secs pre).map (·.1)
   · have He:=hid (show¬Pn.OkNext (picked L.secs pre) (k,s)from fun h=>h.2.1 hBm);rw[decide_eq_true hBm]at a5;clear hA hBm
     gi_wp2
     refine⟨trivial,(CallsIn.inRound l (callsIn_wide.2 a0)).mono ?_⟩;rintro e W2 ⟨rfl,rfl⟩
     gi_wp2
     exact⟨(KeepsOthers.setCell _ _ _).from _,rfl,⟨pre,y,rfl,hid (by rw[Hz.out];exact He.out)⟩,h1.set 0 _,hb.setCell (p:=⟨w.heap.size+1,0,none⟩) (by simp) _⟩
   · rw[decide_eq_false hBm]at a5;by_cases hC:s.length=64
     · have He:=hid (show Pn.OkNext (picked L.secs pre) (k,s)from⟨hA,hBm,hC⟩);have ad:((s.length:Int) !=64)=false:=by simp;omega
       clear hA hBm hC
       gi_wp2
       refine⟨trivial,(CallsIn.inRound l (callsIn_wide.2 a0)).mono ?_⟩;rintro e W2 ⟨rfl,rfl⟩
       gi_wp2_with (gi_at_mapUpdate;refine wpListIn_mapUpdate_own _ rfl _ _ _ 227 rfl 3 4 (Maps.int_keyed Tryz.underlying3) Tryz.underlying227 _ (w.heap.size+1+1) pre.length _ rfl h3 (by unfold maxLen;have:=a1.out;have:=Ct L a2.out;omega) _ _ _ rfl rfl (Maps.keyOf_int_mk Tryz.underlying3 a9) _ [] (plainElem_bool Tryz.underlying4 true) ?_;intro w1 hown1 hgrow1)
       have ag:W2.heap.size<=w1.heap.size:=hgrow1.size;exact⟨KeepsFrom.of_grownBy hgrow1 (fun j e=>by cases e;omega),⟨Stays.grown hgrow1 (fun j e=>by cases e;omega),⟨(Below.refl _ W2).grown hgrow1 hb.size (fun k e=>by cases e;omega),fun g hg=>hgrow1.block g (by have:=a4 g hg;omega) (fun e=>by cases e;have:=a4 _ hg;omega)⟩⟩,
        h1.kept hgrow1 (by simp),h2.kept hgrow1 (by simp),by unfold Seen;rw[<-a6.out,Pt,List.length_append];exact hown1,hid (aa.out He.out),hb.grown hgrow1 hb.size (fun k e=>by cases e;omega),by omega⟩
     · have He:=hid (show¬Pn.OkNext (picked L.secs pre) (k,s)from fun h=>hC h.2.2);have ad:((s.length:Int) !=64)=true:=by simp;omega
       clear hA hBm hC
       gi_wp2
       refine⟨trivial,(CallsIn.inRound l (callsIn_wide.2 a0)).mono ?_⟩;rintro e W2 ⟨rfl,rfl⟩
       gi_wp2
       exact⟨(KeepsOthers.setCell _ _ _).from _,rfl,⟨pre,y,rfl,hid (by rw[Hz.out];exact He.out)⟩,h1.set 0 _,hb.setCell (p:=⟨w.heap.size+1,0,none⟩) (by simp) _⟩
 case done=>
  rintro Dd ys U hDd hS ⟨h1,h2,h3,hok,hb,hs⟩ hK;have Hf:=hid (show L.fit=true from Pn.fit_of_all a2.out a1.out (by rw[<-hS];exact hok.out));have ac:=blk1 h1;have ab:=h1.frozen 0;have s1:=h1.set 0 (.bool true);have a7:(U.setCell ⟨w.heap.size+1,0,none⟩ (.bool true)).heap[Dd]? =some (.deferred (some [])):=(Below.heap_setCell _ _ _ _ (by simp;omega)).trans hK;have d0:=fun o=>blk1 (s1.at_ (World.putObj_heap_other (r:=Dd) (o:=o) (by omega)))
  go_wp2_with fail
  refine⟨by simp,.inl ⟨_,_,rfl,run_takeDeferred a7,?_⟩⟩;refine⟨.bool true,by simp[results,Tryz.results144,go_sem,d0],by rw[Hf.out],?_⟩;exact(hb.setCell (p:=⟨w.heap.size+1,0,none⟩) (by simp) _).trans (belowK_b (w:=w) (Nat.le_refl _) _ Dd _ _ (by omega) a7 rfl rfl)
 case stop=>
  rintro Dd c pre U hDd ⟨m,hm,hpre⟩ ⟨rfl,⟨pre',y,e,he⟩,h1,hb⟩ hK;have Hf:=hid (show L.fit=false by
   subst e;rw[BJ,List.take_succ_eq_append_getElem hm]at hpre;have e1:=List.append_inj_left' hpre rfl;have e2:=List.append_inj_right' hpre rfl;injection e2 with e2
   have:=he.out;rw[e1,e2]at this;exact Pn.fit_not_at hm this)
  have d0:=fun o=>blk1 (h1.at_ (World.putObj_heap_other (r:=Dd) (o:=o) (by omega)))
  refine wpIn_wide.2 ?_;go_wp2_with fail
  refine⟨by simp,.inl ⟨_,_,rfl,run_takeDeferred hK,?_⟩⟩;refine⟨.bool false,by simp[results,Tryz.results144,go_sem,d0],by rw[Hf.out],?_⟩;exact hb.trans (belowK_b (w:=w) (Nat.le_refl _) _ Dd _ _ (by omega) hK rfl rfl)
theorem G9 (L:Pn)(p' q':Pl)(w:World)(hL:IsPn w L p' q'):
 CR 144 #[pval L p' q'] w (.bool L.fit):=by
 by_cases h:L.targets.length≠L.data.length\/24<L.targets.length
 · exact M0 L p' q' w hL h
 · exact M1 L p' q' w hL (by omega) (by omega)
end
section
open Go.RowKit Go.Shelf
attribute [local go_sem] Ad Af Ag Ab Ai Ah Oper.semAt_some
abbrev tval (t:Tx)(p q:Pl):Value:=.agg #[.int .u64 t.seq,.slice p.a t.plan.targets.length p.c,.slice q.a t.plan.data.length q.c]
def RetRows (w:World)(te:TypeId)(X:List (List UInt8)×Int)(e:Ending)(w':World):Prop:=
 ∃v,e=.returned (.tuple #[v,.int .i64 X.2])/\w'.ownsRow w.heap.size te 1 v X.1.length (strCells X.1)
structure WrBox (W:World) (n₀ gl gs Vs Bp:Nat) (tl te tm:TypeId) (X:List (List UInt8)) (sm:Nat):Prop where
 ex:∃g cap,Blk W gl tl #[.slice (some ⟨g,0,none⟩) X.length cap]/\W.ownsRow n₀ te 1 (.slice (some ⟨g,0,none⟩) X.length cap) X.length (strCells X)/\(g<Bp\/Vs+5<=g)/\cap<=maxLen
 sum:Blk W gs tm #[.int .u32 ((sm:Nat):Int)]
theorem FP {s:Nat}(h:s<4294967296):crcMore s []=s:=by
 unfold crcMore;show 4294967295-(4294967295-s)=s;omega
theorem Q7 (B n₀ gl gs Vs Bp:Nat)(tl te tm:TypeId)(X:List (List UInt8))(sm:Nat):OwnFrom B (fun(_:Unit) W=>WrBox W n₀ gl gs Vs Bp tl te tm X sm):=by
 rintro s Y Z row ⟨⟨g,cap,h1,h2,h3,h4⟩,h5⟩ hy hr;exact⟨⟨g,cap,(Own.from (AE _ _ (fun _:Unit=>_)) _) () Y Z row h1 hy hr,MT h2 hy hr,h3,h4⟩,(Own.from (AE _ _ (fun _:Unit=>_)) _) () Y Z row h5 hy hr⟩
theorem QI (t:Tx)(p q:Pl)(w:World)(hL:IsPn w t.plan p q)(ht:¬t.Ok):
 CX 118 #[tval t p q] w (RetRows w 9 t.write):=by
 have Hw:=hid (show t.write=([],25) by unfold Tx.write;rw[if_neg ht]);have a2:=hL.pm;unfold maxLen at a2;have hz:∀W:World,W.ownsRow w.heap.size 9 1 (.slice none 0 0) 0 []:=fun W=>World.ownsRow_nil _ _ _ _
 have x0:=Blk.new w 164 #[.int .u64 t.seq,.slice p.a t.plan.targets.length p.c,.slice q.a t.plan.data.length q.c];have hb:=Yz (W:=w) (.cells #[.int .u64 t.seq,.slice p.a t.plan.targets.length p.c,.slice q.a t.plan.data.length q.c] 164);have k0:_/\_/\_:=⟨x0.cell 0,x0.cell 1,x0.cell 2⟩;by_cases h0:t.plan.targets=[]
 · have hl:t.plan.targets.length=0:=by rw[h0];rfl
   have a1:((t.plan.targets.length:Int)==0)=true:=by simp[hl]
   clear hl h0;go_enter Tryz.func118,Tryz.ntmps118;go_wp2_with fail
   go_ret2
   exact⟨⟨_,by rw[Hw.out];rfl,by rw[Hw.out];exact hz _⟩,hb⟩
 · have hl:=List.length_pos_iff.2 h0;have a1:((t.plan.targets.length:Int)==0)=false:=by rw[beq_eq_false_iff_ne];omega
   have hf:t.plan.fit=false:=Pn.fit_no fun h=>ht ⟨h,h0⟩
   have a0:=fun(W:World)(hb:Below w.heap.size w W)=>G9 t.plan p q W (hL.below hb)
   rw[hf]at a0;clear hf h0;go_enter Tryz.func118,Tryz.ntmps118;go_wp2_with fail
   refine(a0 _ hb).mono ?_;rintro e w1 ⟨rfl,hb1⟩;go_wp2_with fail
   go_ret2
   exact⟨⟨_,by rw[Hw.out];rfl,by rw[Hw.out];exact hz _⟩,bt hb hb1⟩
theorem IL (X:List (List UInt8))(s:List UInt8):strCells X++[Value.string (bs s)]=strCells (X++[s]):=by simp[strCells]
theorem Jh {w0 W U W2 W3:World}{n₀ b4 g gg cap cap2 Vs Bp:Nat}{tl te tm:TypeId}{X Y:List (List UInt8)}{s:List UInt8}{sm sm':Nat}(hb:Below n₀ w0 W)(hs:Vs<=W.heap.size)(hVz:Vs+2+3<=W.heap.size)
 (hU:Below W.heap.size W U) (h2:W.ownsRow n₀ te 1 (.slice (some ⟨g,0,none⟩) (X.length+1) cap) (X.length+1) (strCells ([]::X))) (h3:g<Bp\/Vs+5<=g) (gr2:U.grownBy W2 (some g)) (hor:some g=some gg\/gg=U.heap.size) (hr2:W2.ownsRow n₀ te 1 (.slice (some ⟨gg,0,none⟩) (X.length+1+1) cap2) (X.length+1+1) (strCells ([]::X)++[Value.string (bs s)])) (hb3:Below W2.heap.size W2 W3)
 (e1:Blk W3 b4 tl #[.slice (some ⟨g,0,none⟩) (X.length+1) cap]) (e5:Blk W3 (b4+1) tm #[.int .u32 (sm:Int)]) (er:W3.ownsRow n₀ te 1 (.slice (some ⟨gg,0,none⟩) (X.length+1+1) cap2) (X.length+1+1) (strCells ([]::X)++[Value.string (bs s)]))
 (hn:n₀<=b4) (hn2:n₀<=Vs) (hg:n₀<=g) (hbV:b4+1<Bp) (hBpV:Bp<Vs) (htl:tl≠te) (htm:tm≠te) (hY:Y=X++[s]) {Z:World} (hZ:Z=(W3.setCell ⟨b4,0,none⟩ (.slice (some ⟨gg,0,none⟩) (X.length+1+1) cap2)).setCell ⟨b4+1,0,none⟩ (.int .u32 ((sm':Nat):Int))):
 KeepsFrom Vs W Z/\(StaysC (Vs+2) 3 W Z/\KeepB n₀ [Bp] W Z)/\WrBox Z n₀ b4 (b4+1) Vs Bp tl te tm ([]::Y) sm'/\Below n₀ w0 Z/\Vs<=Z.heap.size:=by
 have sU:=hU.size;have s2:=gr2.size;have s3:=hb3.size;have a1:∀k,k<W.heap.size->k≠g->W2.heap[k]? =W.heap[k]? :=fun k hk hne=>(gr2.block k (by omega) (by simpa using hne)).trans (hU.block k hk)
 have bz:∀k,k<W.heap.size->k≠g->k≠b4->k≠b4+1->Z.heap[k]? =W.heap[k]? :=fun k hk hne h1 h2=>by
  rw[hZ,Below.heap_setCell _ _ _ _ h2,Below.heap_setCell _ _ _ _ h1,hb3.block k (by omega),a1 k hk hne]
 have n1:b4≠gg:=CF er e1 htl;have n2:b4+1≠gg:=CF er e5 htm;have sz:Z.heap.size=W3.heap.size:=by rw[hZ];simp
 have a0:Below n₀ W Z:=by
  have b1:Below n₀ W U:=hU.mono (by omega);have b2:Below n₀ U W2:=⟨gr2.os,gr2.tape,gr2.output,gr2.size,fun k hk=>gr2.block k (by omega) (by simp;omega)⟩;have b3:Below n₀ W2 W3:=hb3.mono (by omega);rw[hZ];exact(((b1.trans b2).trans b3).setCell (p:=⟨b4,0,none⟩) hn _).setCell (p:=⟨b4+1,0,none⟩) (show n₀<=b4+1 by omega) _
 have a3:∃o:Obj,W2.heap[gg]? =some o/\o.isCells=true:=by
  rcases hr2.2 with ⟨h',_⟩|⟨g',cap',cur,h',_,hg',_⟩
  · cases h'
  · injection h' with h'
    injection h' with h'
    injection h' with h'
    subst h';exact⟨_,hg',rfl⟩
 refine⟨⟨by omega,fun k o hk ho hc=>?_⟩,⟨⟨by omega,fun k h1 h2 hk=>bz k hk (by omega) (by omega) (by omega)⟩,⟨a0,fun k hk=>?_⟩⟩,⟨⟨gg,cap2,?_,?_,?_,?_⟩,?_⟩,hb.trans a0,by omega⟩
 · have a2:=(Array.getElem?_eq_some_iff.1 ho).1;by_cases hkg:k=g
   · exfalso
     rw[hkg]at ho
     rcases h2.2 with ⟨h',_⟩|⟨g',cap',cur,h',_,hg',_⟩
     · cases h'
     · injection h' with h'
       injection h' with h'
       injection h' with h'
       subst h';rw[hg']at ho;cases ho
       cases hc
   · rw[bz k a2 hkg (by omega) (by omega)];exact ho
 · obtain rfl:k=Bp:=by simpa using hk
   exact bz _ (by omega) (by omega) (by omega) (by omega)
 · rw[hZ,hY,List.length_cons,List.length_append,List.length_singleton];have:=(e1.set 0 (.slice (some ⟨gg,0,none⟩) (X.length+1+1) cap2)).other (a:=⟨b4+1,0,none⟩) (by simp) (.int .u32 ((sm':Nat):Int));simpa using this
 · rw[hZ,hY,List.length_cons,List.length_append,List.length_singleton,<-List.cons_append,<-IL];exact ownsRow_setCell_other (ownsRow_setCell_other er (a:=⟨b4,0,none⟩) (by simpa[Value.ownBlock]using n1.symm) _) (a:=⟨b4+1,0,none⟩) (by simpa[Value.ownBlock]using n2.symm) _
 · rcases hor with h|h
   · injection h with h;subst h;exact h3
   · right;omega
 · rcases er.2 with ⟨h',_⟩|⟨g',cap',cur,h',_,_,_,h1,_⟩
   · cases h'
   · injection h' with _ _ h';subst h';exact h1
 · rw[hZ];have:=(e5.other (a:=⟨b4,0,none⟩) (by simp) (.slice (some ⟨gg,0,none⟩) (X.length+1+1) cap2)).set 0 (.int .u32 ((sm':Nat):Int));simpa using this
def wrAct (t:Tx)(p q:Pl)(b b3 b4 b5:Nat)(s:List UInt8):Act:=
 {tmps:=#[tval t p q,.pointer (some ⟨b,0,none⟩),.slice none 0 0,.int .i64 0,.int .i64 t.plan.targets.length,.string (bs t.head),.pointer (some ⟨b4,0,none⟩),.pointer (some ⟨b4+1,0,none⟩),.string (bs s),
  .pointer (some ⟨b,1,none⟩),.pointer (some ⟨b,1,none⟩),.slice p.a t.plan.targets.length p.c,.int .i64 t.plan.targets.length,.int .i64 t.plan.targets.length,.bool false,.bool false,.pointer (some ⟨b,1,none⟩),
  .agg #[.slice p.a t.plan.targets.length p.c,.slice q.a t.plan.data.length q.c],.bool true,.bool false,.bool false,.pointer (some ⟨b,0,none⟩),.int .u64 t.seq,.string (bs (be 8 t.seq)),.int .i64 t.plan.targets.length,.string (bs (be 2 t.plan.targets.length)),.string (bs t.head),
  .slice (some ⟨b3,0,none⟩) 1 1,.string (bs t.head),.int .u32 ((crcOf t.head:Nat):Int),.pointer (some ⟨b,1,none⟩),.agg #[.slice p.a t.plan.targets.length p.c,.slice q.a t.plan.data.length q.c],.func (.func 176) #[] #[.pointer (some ⟨b5,0,none⟩)],
  .string (bs s),undef,undef,undef,undef,undef,undef,undef,undef,undef,undef,undef,undef,undef,undef,undef,undef,undef,undef,undef,undef],defers:=[]}
theorem QJ (t:Tx)(p q:Pl)(w:World)(hL:IsPn w t.plan p q)(hs:t.seq<18446744073709551616)(ht:t.Ok):
 CX 118 #[tval t p q] w (RetRows w 9 t.write):=by
 have Hw:=hid (show t.write=(t.rows,0) by unfold Tx.write;rw[if_pos ht]);have aB:=hL.pm;unfold maxLen at aB;have hl:=List.length_pos_iff.2 ht.2;have aa:=ht.1.2.1;have aO:((t.plan.targets.length:Int)==0)=false:=by rw[beq_eq_false_iff_ne];omega
 have ag:=fun(W:World)(hb:Below w.heap.size w W)=>(hL.below hb:IsPn W t.plan p q)
 have hf:t.plan.fit=true:=Pn.fit_iff.2 ht.1;have a2:=fun(W:World)(hb:Below w.heap.size w W)=>G9 t.plan p q W (ag W hb)
 rw[hf]at a2;clear hf hL;have hb:=Yz (W:=w) (.cells #[.int .u64 t.seq,.slice p.a t.plan.targets.length p.c,.slice q.a t.plan.data.length q.c] 164);have x0:=Blk.new w 164 #[.int .u64 t.seq,.slice p.a t.plan.targets.length p.c,.slice q.a t.plan.data.length q.c];have k0:_/\_/\_:=⟨x0.cell 0,x0.cell 1,x0.cell 2⟩;have am:∀W,Calls Tryz.prog 145 #[.int .u64 t.seq,.int .i64 8] W fun e w'=>e=.returned (.string (bs (be 8 t.seq)))/\Below W.heap.size W w':=fun W=>QG t.seq hs 8 (by omega) (by omega) W
 have al:∀W,Calls Tryz.prog 146 #[.int .i64 t.plan.targets.length,.int .i64 2] W fun e w'=>e=.returned (.string (bs (be 2 t.plan.targets.length)))/\Below W.heap.size W w':=fun W=>Fd t.plan.targets.length (by omega) 2 (by omega) (by omega) W
 have aN:be 8 t.seq++be 2 t.plan.targets.length=t.head:=rfl;have ak:=t.head_length;have an:=fun W=>Kh t.head (by rw[ak];decide) W
 refine(callsIn_wide (n:=6)).1 (callsIn_of_wp_marks Tryz.func118 rfl trivial (wpIn_wide.2 ?_) rfl);simp only[Tryz.ntmps118,Nat.reduceAdd,Nat.reduceSub,Yn];go_wp2_with fail
 refine(a2 _ hb).mono ?_;rintro e w1 ⟨rfl,hb1⟩;have x1:=x0.bl hb1;have b1:=bt hb hb1;have k1:_/\_/\_:=⟨x1.cell 0,x1.cell 1,x1.cell 2⟩;clear k0;go_wp2_with fail
 refine(am _).mono ?_;rintro e w2 ⟨rfl,hb2⟩;have x2:=x1.bl hb2;have b2:=bt b1 hb2;clear k1;go_wp2_with fail
 refine(al _).mono ?_;rintro e w3 ⟨rfl,hb3⟩;have x3:=x2.bl hb3;have b3:=bt b2 hb3;have r3:=World.ownsRow_lit (base:=w.heap.size) (e:=9) (size:=1) w3 #[.string (bs [])] 1 b3.size (by unfold maxLen;omega) rfl;have a4:=b3.alloc b3.size (.cells #[.string (bs [])] 9);have af:=Yc x3 a4;have g3:w3.heap.size<(w3.alloc (.cells #[.string (bs [])] 9)).heap.size:=by simp
 go_wp2_with fail
 generalize w3.alloc (.cells #[.string (bs [])] 9)=V3 at*;refine(an _).mono ?_;rintro e w4 ⟨rfl,hb4⟩;have r4:=r3.kept (row:=none) ⟨hb4.os,hb4.tape,hb4.output,hb4.size,fun k hk _=>hb4.block k hk⟩ (by simp[Value.ownBlock]);have x4:=af.below hb4 af.lt;have b4:=bt a4 hb4;have bl:=(Blk.new w4 61 #[.slice (some ⟨w3.heap.size,0,none⟩) 1 1]).alloc (.cells #[.int .u32 ((crcOf t.head:Nat):Int)] 93);have bm:=DX w4 (.cells #[.slice (some ⟨w3.heap.size,0,none⟩) 1 1] 61) 93 #[.int .u32 ((crcOf t.head:Nat):Int)];have x5:=(x4.alloc (.cells #[.slice (some ⟨w3.heap.size,0,none⟩) 1 1] 61)).alloc (.cells #[.int .u32 ((crcOf t.head:Nat):Int)] 93);have r5:=(r4.alloc (.cells #[.slice (some ⟨w3.heap.size,0,none⟩) 1 1] 61)).alloc (.cells #[.int .u32 ((crcOf t.head:Nat):Int)] 93);have b5:=(b4.alloc b4.size (.cells #[.slice (some ⟨w3.heap.size,0,none⟩) 1 1] 61)).alloc (Nat.le_trans b4.size (by simp)) (.cells #[.int .u32 ((crcOf t.head:Nat):Int)] 93);have k5:_/\_/\_:=⟨x5.cell 0,x5.cell 1,x5.cell 2⟩;have g4:=hb4.size;have aJ:=b4.size;have g5:w4.heap.size+1<((w4.alloc (.cells #[.slice (some ⟨w3.heap.size,0,none⟩) 1 1] 61)).alloc (.cells #[.int .u32 ((crcOf t.head:Nat):Int)] 93)).heap.size:=bm.lt;clear r3 af a4;go_wp2_with fail
 generalize ((w4.alloc (.cells #[.slice (some ⟨w3.heap.size,0,none⟩) 1 1] 61)).alloc (.cells #[.int .u32 ((crcOf t.head:Nat):Int)] 93))=V5 at*;refine(callsIn_wide.1 (Jv 5 t.plan p q _)).mono ?_;rintro e w' ⟨rfl,rfl⟩;have bp:=apc2 (Blk.new V5 63) t.plan p.a p.c q.a q.c;have bl6:=bl.alloc (.cells #[.slice p.a t.plan.targets.length p.c,.slice q.a t.plan.data.length q.c] 63);have aq:=bm.alloc (.cells #[.slice p.a t.plan.targets.length p.c,.slice q.a t.plan.data.length q.c] 63);have r6:=r5.alloc (.cells #[.slice p.a t.plan.targets.length p.c,.slice q.a t.plan.data.length q.c] 63);have b6:=Ya b5 bp;have g6:V5.heap.size<(V5.alloc (.cells #[.slice p.a t.plan.targets.length p.c,.slice q.a t.plan.data.length q.c] 63)).heap.size:=bp.lt;clear bl bm x5 r5 b5 k5;go_wp2_with fail
 generalize V5.alloc (.cells #[.slice p.a t.plan.targets.length p.c,.slice q.a t.plan.data.length q.c] 63)=V at*;obtain⟨R,hR⟩:∃R,t.rest=R:=⟨_,rfl⟩;have ax:∀s∈R,s.length=64:=by rw[<-hR];exact Tx.rest_64 ht
 have aL:R.length<=50:=by
  have h1:=Tx.rest_length ht;rw[hR]at h1;have h2:txSize t.plan.targets.length<=50:=by unfold txSize;split<;>omega
  omega
 have n1:1<=6:=by omega
 have aK:=b6.size;have ah:crcOf t.head<4294967296:=A6 0 t.head;refine(wpIn_wide (n:=6)).1 ?_;refine ES rfl n1 (gf:=176) (lb:=#[.pointer (some ⟨V5.heap.size,0,none⟩)]) rfl trivial (enters_of Tryz.func176 (by kernel_rfl) rfl)
  (Jw 5 (by omega) t.plan p q hl aa (by have:=ht.1.1;omega) (fun x hx=>by obtain⟨i,hi,rfl⟩:=List.getElem_of_mem hx;exact(ht.1.2.2.1 i hi).1) R hR w.heap.size _ V b6.size (fun W hb=>ag W (b6.trans hb)) bp)
  KeepB.trans (fun W l o o' q1 q2 q3 q4=>KeepB.putObj o' (by omega) (fun g hg=>by
   simp only[List.mem_cons,List.not_mem_nil,or_false]at hg;omega)) (Below.refl _ _) (fun _=>rfl)
  (fun pre W=>WrBox W w.heap.size w4.heap.size (w4.heap.size+1) V.heap.size V5.heap.size 61 9 93 ([]::picked R pre) (crcMore (crcOf t.head) (picked R pre).flatten)/\Below w.heap.size w W/\V.heap.size<=W.heap.size)
  (fun c pre W=>False)
  ?hI ?hIx ?h0
  (fun y a' W=>a'=wrAct t p q w.heap.size w3.heap.size w4.heap.size V5.heap.size R[y.val])
  (fun _ _ _ _ _ _ hs _ _=>hs) ?assign ?body ?done ?stop
 case hI=>
  rintro pre X Y row ⟨h1,h3,h4⟩ hy hr;exact⟨Q7 _ _ _ _ _ _ _ _ _ _ _ () X Y row h1 hy hr,ownFrom_below (β:=Unit) (Nat.le_refl _) b6.size () X Y row h3 hy hr,Nat.le_trans h4 hy.size⟩
 case hIx=>
  rintro c pre X Y row h0 hy hr;exact h0
 case h0=>exact⟨⟨⟨w3.heap.size,1,bl6,r6,.inl (by omega),by unfold maxLen;omega⟩,by rw[show(picked R []).flatten=[]from rfl,FP ah];exact aq⟩,b6,Nat.le_refl _⟩
 case assign=>
  rintro l pre y W K hI hK
  dsimp only[rowEnc]
  gi_wp2
  exact hK _ _ (KeepsFrom.refl _ _) (StaysC.refl _ _ _) (KeepB.refl _ _ _) hI rfl
 case body=>
  rintro l pre y a' W ⟨⟨⟨g,cap,h1,h2,h3,h4⟩,h5⟩,hb,hs⟩ rfl hpl hVz;obtain⟨s,hse⟩:∃s,R[y.val]=s:=⟨_,rfl⟩;have aC:s.length=64:=by rw[<-hse];exact ax _ (List.getElem_mem _)
  have a3:=hid (show picked R (pre++[y])=picked R pre++[s] by rw[BJ,hse]);have aA:(picked R pre).length=pre.length:=by simp[picked]
  generalize hX:picked R pre=X at*;rw[hse];have aD:=A6 (crcOf t.head) X.flatten;have aE:=hid (show crcMore (crcMore (crcOf t.head) X.flatten) s=crcMore (crcOf t.head) (X++[s]).flatten by rw[C3 ah];simp);generalize crcMore (crcOf t.head) X.flatten=sm at*;have ac:=fun W=>FV sm aD s (by omega) W
  rw[aE.out]at ac;obtain⟨i2,j2,jz1,jz2,jz3⟩:=info_parts Tryz.infoStrP;have ae:w4.heap.size≠g:=CF h2 h1 (by decide);have ao:w4.heap.size+1≠g:=CF h2 h5 (by decide);have ab:([]::X:List (List UInt8)).length=X.length+1:=rfl;rw[ab]at h1 h2;have a0:Below W.heap.size W W.drew:=(Below.refl _ _).drew;have az:=Dv h2 a0;have ai:=h1.bl a0;have aj:=h5.bl a0;have s0:W.drew.cell? ⟨w4.heap.size,0,none⟩=some (.slice (some ⟨g,0,none⟩) (X.length+1) cap)/\W.drew.cell? ⟨w4.heap.size+1,0,none⟩=some (.int .u32 (sm:Int)):=⟨blk1 ai,blk1 aj⟩;unfold wrAct
  gi_wp2_with fail
  refine Fg mixed (by kernel_rfl) (by rintro⟨a,w',h⟩;exact h) (CS (S:=fun W=>W.cell? ⟨w4.heap.size+1,0,none⟩=some (.int .u32 (sm:Int))) (late:=fun i=>i==8) _ _ _ _ ?_);show wpLate _ _ _ _ _ _ _ _ _ W.drew;generalize hVd:W.drew=V0 at*;simp only[Nat.reduceAdd,Yn];refine Yu 4 (some 38) (.int .u32 (sm:Int)) rfl (by kernel_rfl) (fun _ _ _ h=>h) (fun W hW=>by have h:=hW;go_simp) s0.2 ?_;simp only[Yf];refine Yt 1 35 (.string (bs s)) rfl (by kernel_rfl) (fun _ _ _ h=>h) (fun W=>by first|rfl|go_simp) ?_;simp only[Yf];refine Yt 5 39 (.string (bs s)) rfl (by kernel_rfl) (fun _ _ _ h=>h) (fun W=>by first|rfl|go_simp) ?_;simp only[Yf];have q0:=Blk.new V0 9 #[.string (bs s)];have q1:=ai.alloc (.cells #[.string (bs s)] 9);have q5:=aj.alloc (.cells #[.string (bs s)] 9);have qr:=az.alloc (.cells #[.string (bs s)] 9);have qb:=Yz (W:=V0) (.cells #[.string (bs s)] 9);have aP:=blk1 q1;have ap:=blk1 q5;refine Bq (i:=0) (k:=2) (by kernel_rfl) rfl rfl rfl rfl (fun K hK=>?_) (fun K hK=>?_)
  · refine AJ (v:=.slice (some ⟨g,0,none⟩) (X.length+1) cap) (w':=V0) (by have h:=s0.1;go_simp) ?_;show K (Act.put _ (some 34) _) _;refine hK _ _ (fun _ h=>h) ?_;simp only[Yf];refine Ak (i:=2) (by kernel_rfl) rfl rfl (fun K hK=>?_);refine AJ (v:=.slice (some ⟨V0.heap.size,0,none⟩) 1 1) (w':=V0.alloc (.cells #[.string (bs s)] 9)) (by go_simp) ?_;show K (Act.put _ (some 36) _) _;refine hK _ _ (fun _ _=>ap) ?_;simp only[Yf];generalize hU:V0.alloc (.cells #[.string (bs s)] 9)=U at*;refine Ak (i:=3) (by kernel_rfl) rfl rfl (fun K hK=>?_);refine wp_append_lies _ (.tmp 34) (.tmp 36) 61 rfl w.heap.size 9 i2 (.string ⟨#[]⟩) 1 16 Tryz.underlying61 j2 jz1 jz2 jz3 rfl (by decide) _ (X.length+1) (strCells ([]::X)) rfl qr ⟨V0.heap.size,0,none⟩ 1 1 [.string (bs s)] rfl rfl (World.news_of_block q0) (by simp[Value.oneCell']) (by omega) (by unfold maxLen;omega) (by omega) (by have:=qb.size;have:=a0.size;omega) _ rfl ?_;intro gg cap2 W2 hr2 gr2 hor hlt;have gr2:U.grownBy W2 (some g):=gr2;have c1:=q1.kept gr2 (by simpa using ae);obtain⟨c5,a5⟩:=Z1 (q5.kept gr2 (by simpa using ao));show K (Act.put _ (some 37) _) _;refine hK _ _ (fun _ _=>a5) ?_;simp only[Yf];refine Ak (i:=6) (by kernel_rfl) rfl rfl (fun K hK=>?_);refine oper_enter' (f:=149) (args:=#[.int .u32 (sm:Int),.string (bs s)]) (w':=W2) (by go_simp) ((ac W2).mono ?_);rintro e W3 ⟨rfl,hb3⟩;have e1:=c1.bl hb3;have e5:=c5.bl hb3;have er:=Dv hr2 hb3;have ar:=blk1 e1;have a6:=blk1 e5;have au:=e1.fz;have av:=e5.fz;refine⟨_,rfl,?_⟩;show K (Act.put _ (some 40) _) _;refine hK _ _ (fun _ _=>a6) ?_;simp only[Yf];have f1:=e1.set 0 (Value.slice (some ⟨gg,0,none⟩) (X.length+1+1) cap2);obtain⟨f5,a7⟩:=Z1 (e5.other (a:=⟨w4.heap.size,0,none⟩) (by simp) (Value.slice (some ⟨gg,0,none⟩) (X.length+1+1) cap2));refine Ak (i:=7) (by kernel_rfl) rfl rfl (fun K hK=>?_);refine Ay (w':=W3.setCell ⟨w4.heap.size,0,none⟩ (Value.slice (some ⟨gg,0,none⟩) (X.length+1+1) cap2)) (by go_simp) ?_;show K (Act.put _ none _) _;refine hK _ _ (fun _ _=>a7) ?_
    try simp only[Yf]
    refine Ak (i:=8) (by kernel_rfl) rfl rfl (fun K hK=>?_);refine Ay (w':=(W3.setCell ⟨w4.heap.size,0,none⟩ (Value.slice (some ⟨gg,0,none⟩) (X.length+1+1) cap2)).setCell ⟨w4.heap.size+1,0,none⟩ (.int .u32 ((crcMore (crcOf t.head) (X++[s]).flatten:Nat):Int))) (by go_simp) ?_;show K (Act.put _ none _) _;refine hK _ _ (fun h=>by cases h) ?_
    try simp only[Yf]
    refine AD (by kernel_rfl) ?_ _;exact Jh hb hs hVz (bt a0 qb) h2 h3 gr2 hor hr2 hb3 e1 e5 er (by omega) (by omega) (h2.lt g rfl).1 (by omega) (by omega) (by decide) (by decide) a3.out (by rw[a3.out])
  · refine AJ (v:=.slice (some ⟨V0.heap.size,0,none⟩) 1 1) (w':=V0.alloc (.cells #[.string (bs s)] 9)) (by go_simp) ?_;show K (Act.put _ (some 36) _) _;refine hK _ _ (fun _ _=>ap) ?_;simp only[Yf];refine Ak (i:=0) (by kernel_rfl) rfl rfl (fun K hK=>?_);refine AJ (v:=.slice (some ⟨g,0,none⟩) (X.length+1) cap) (w':=V0.alloc (.cells #[.string (bs s)] 9)) (by go_simp) ?_;show K (Act.put _ (some 34) _) _;refine hK _ _ (fun _ h=>h) ?_;simp only[Yf];generalize hU:V0.alloc (.cells #[.string (bs s)] 9)=U at*;refine Ak (i:=3) (by kernel_rfl) rfl rfl (fun K hK=>?_);refine wp_append_lies _ (.tmp 34) (.tmp 36) 61 rfl w.heap.size 9 i2 (.string ⟨#[]⟩) 1 16 Tryz.underlying61 j2 jz1 jz2 jz3 rfl (by decide) _ (X.length+1) (strCells ([]::X)) rfl qr ⟨V0.heap.size,0,none⟩ 1 1 [.string (bs s)] rfl rfl (World.news_of_block q0) (by simp[Value.oneCell']) (by omega) (by unfold maxLen;omega) (by omega) (by have:=qb.size;have:=a0.size;omega) _ rfl ?_;intro gg cap2 W2 hr2 gr2 hor hlt;have gr2:U.grownBy W2 (some g):=gr2;have c1:=q1.kept gr2 (by simpa using ae);obtain⟨c5,a5⟩:=Z1 (q5.kept gr2 (by simpa using ao));show K (Act.put _ (some 37) _) _;refine hK _ _ (fun _ _=>a5) ?_;simp only[Yf];refine Ak (i:=6) (by kernel_rfl) rfl rfl (fun K hK=>?_);refine oper_enter' (f:=149) (args:=#[.int .u32 (sm:Int),.string (bs s)]) (w':=W2) (by go_simp) ((ac W2).mono ?_);rintro e W3 ⟨rfl,hb3⟩;have e1:=c1.bl hb3;have e5:=c5.bl hb3;have er:=Dv hr2 hb3;have ar:=blk1 e1;have a6:=blk1 e5;have au:=e1.fz;have av:=e5.fz;refine⟨_,rfl,?_⟩;show K (Act.put _ (some 40) _) _;refine hK _ _ (fun _ _=>a6) ?_;simp only[Yf];have f1:=e1.set 0 (Value.slice (some ⟨gg,0,none⟩) (X.length+1+1) cap2);obtain⟨f5,a7⟩:=Z1 (e5.other (a:=⟨w4.heap.size,0,none⟩) (by simp) (Value.slice (some ⟨gg,0,none⟩) (X.length+1+1) cap2));refine Ak (i:=7) (by kernel_rfl) rfl rfl (fun K hK=>?_);refine Ay (w':=W3.setCell ⟨w4.heap.size,0,none⟩ (Value.slice (some ⟨gg,0,none⟩) (X.length+1+1) cap2)) (by go_simp) ?_;show K (Act.put _ none _) _;refine hK _ _ (fun _ _=>a7) ?_
    try simp only[Yf]
    refine Ak (i:=8) (by kernel_rfl) rfl rfl (fun K hK=>?_);refine Ay (w':=(W3.setCell ⟨w4.heap.size,0,none⟩ (Value.slice (some ⟨gg,0,none⟩) (X.length+1+1) cap2)).setCell ⟨w4.heap.size+1,0,none⟩ (.int .u32 ((crcMore (crcOf t.head) (X++[s]).flatten:Nat):Int))) (by go_simp) ?_;show K (Act.put _ none _) _;refine hK _ _ (fun h=>by cases h) ?_
    try simp only[Yf]
    refine AD (by kernel_rfl) ?_ _;exact Jh hb hs hVz (bt a0 qb) h2 h3 gr2 hor hr2 hb3 e1 e5 er (by omega) (by omega) (h2.lt g rfl).1 (by omega) (by omega) (by decide) (by decide) a3.out (by rw[a3.out])
 case done=>
  rintro Dd ys W hDd hS ⟨⟨⟨g,cap,h1,h2,h3,h4⟩,h5⟩,hb,hs⟩ hK;rw[hS]at h1 h2 h5;have ad:crcMore (crcOf t.head) R.flatten=crcOf (t.head++R.flatten):=C3 (by omega) _ _;rw[ad]at h5;have ay:crcOf (t.head++R.flatten)<4294967296:=A6 _ _;have a1:=hid (show t.write=((At (magicJ++t.head++be 2 (65535-t.plan.targets.length)++be 4 (crcOf (t.head++R.flatten))))::R,0) by rw[Hw.out,Tx.rows,Tx.top,hR,headRow]);generalize crcOf (t.head++R.flatten)=cs at*;have aF:(65535:Int)-(t.plan.targets.length:Int)=((65535-t.plan.targets.length:Nat):Int):=by omega
  have X1:=fun e:Ext W=>e.cell (blk1 h1)
  have X5:=fun e:Ext W=>e.cell (blk1 h5)
  have D1:∀e:Ext W,Calls Tryz.prog 146 #[.int .i64 ((65535-t.plan.targets.length:Nat):Int),.int .i64 2] e.world fun x w'=>x=.returned (.string (bs (be 2 (65535-t.plan.targets.length))))/\Below e.world.heap.size e.world w':=fun e=>Fd (65535-t.plan.targets.length) (by omega) 2 (by omega) (by omega) e.world
  have D2:=fun e:Ext W=>Kg cs ay e.world
  have D3:=fun(e:Ext W)(z:List UInt8)(hz:z.length<=64)=>Ja z hz e.world
  have aG:=Ar 2 (65535-t.plan.targets.length);have aH:=Ar 4 cs;have aQ:=i64w (x:=((65535-t.plan.targets.length:Nat):Int)) ⟨by omega,by omega⟩;have aM:g<W.heap.size:=(h2.lt g rfl).2;have a9:Dd≠g:=by
   rintro rfl
   rcases h2.2 with ⟨h',_⟩|⟨g',cap',cur,h',_,hg',_⟩
   · cases h'
   · injection h' with h'
     injection h' with h'
     injection h' with h'
     subst h';rw[hg']at hK;cases hK
  have ae:w4.heap.size≠g:=CF h2 h1 (by decide);have aw:=(Array.getElem?_eq_some_iff.1 hK).1;clear hS h5 x4 b4 hb4 an al am;go_wp2_with fail
  refine Q3 11 mixed (by kernel_rfl) ?_;simp only[List.take_succ_cons,List.take_zero,List.drop_succ_cons,List.drop_zero]
  repeat (go_big_quiet_step ((first|(go_at_call 146;with_reducible exact An (D1 _))|(go_at_call 151;with_reducible exact An (D2 _))|(go_at_call 150;exact An (D3 _ _ (by simp[ak,aG,aH]))))))
  refine wpQuiet_nil ?_;rintro W2 ⟨pq_,hpq_⟩;have hb2:=pq_.below;rw[<-hpq_]at hb2;clear hpq_ pq_;have r2:=Dv h2 hb2;obtain⟨f1,aI⟩:=Z1 (h1.bl hb2);have rc:=r2.cellAt 0 (by simp);have rf:=r2.frozenAt 0;simp only[strCells,List.map_cons,List.getElem?_cons_zero]at rc;go_wp2_with fail
  obtain⟨st1,st2⟩:=r2.stored 0 (.string (bs (At (67::79::70::74::(t.head++(be 2 (65535-t.plan.targets.length)++be 4 cs))))));have a8:(W2.setCell ⟨g,0,none⟩ (.string (bs (At (67::79::70::74::(t.head++(be 2 (65535-t.plan.targets.length)++be 4 cs))))))).heap[Dd]? =some (.deferred (some [])):=
   (Below.heap_setCell _ _ _ _ a9).trans ((hb2.block Dd aw).trans hK)
  refine⟨by simp,.inl ⟨_,_,rfl,run_takeDeferred a8,?_⟩⟩;refine⟨.tuple #[.slice (some ⟨g,0,none⟩) (R.length+1) cap,.int .i64 0],by simp[results,Tryz.results118,go_sem],⟨_,by rw[a1.out],?_⟩,?_⟩
  · rw[a1.out];have h:=ownsRow_putObj st1 (.deferred none) a8 rfl;have e:(strCells ([]::R)).set 0 (.string (bs (At (67::79::70::74::(t.head++(be 2 (65535-t.plan.targets.length)++be 4 cs))))))=strCells (At (magicJ++t.head++be 2 (65535-t.plan.targets.length)++be 4 cs)::R):=by
     simp[strCells,magicJ]
    rw[e]at h;exact h
  · exact(((hb.trans (hb2.mono hb.size)).setCell (p:=⟨g,0,none⟩) (h2.lt g rfl).1 _)).trans (belowK_b (w:=w) (Nat.le_refl _) _ Dd _ _ (by omega) a8 rfl rfl)
 case stop=>
  rintro Dd c pre V hDd hpre hf;exact hf.elim
end
section
open Go.RowKit Go.Shelf
attribute [local go_sem] Ad Af Ag Ab Ai Ah
theorem QH (t:Tx)(p q:Pl)(w:World)(hL:IsPn w t.plan p q)(hs:t.seq<18446744073709551616):
 CX 118 #[tval t p q] w (RetRows w 9 t.write):=by
 by_cases h:t.Ok
 · exact QJ t p q w hL hs h
 · exact QI t p q w hL h
def RetTx (X:Tx×Int)(e:Ending)(w:World):Prop:=∃p q,e=.returned (.tuple #[tval X.1 p q,.int .i64 X.2])/\IsPn w X.1.plan p q
def Br (B:Nat)(L:Pn)(p q:Pl)(w:World):Prop:=
 w.ownsRow B 3 1 (.slice p.a L.targets.length p.c) L.targets.length (intCells L.targets)/\w.ownsRow B 9 1 (.slice q.a L.data.length q.c) L.data.length (strCells L.data)
def RetTxN (B:Nat)(X:Tx×Int)(e:Ending)(w:World):Prop:=∃p q,e=.returned (.tuple #[tval X.1 p q,.int .i64 X.2])/\IsPn w X.1.plan p q/\Br B X.1.plan p q w
theorem RetTxN.ret {B:Nat}{X:Tx×Int}{e:Ending}{w:World}(h:RetTxN B X e w):RetTx X e w:=by
 obtain⟨p,q,he,hi,_⟩:=h;exact⟨p,q,he,hi⟩
theorem Be {w w':World}{base:Nat}{e:TypeId}{size n:Nat}{v:Value}{xs:List Value}(h:w.ownsRow base e size v n xs)(hb:Below w.heap.size w w'):w'.ownsRow base e size v n xs:=
 h.kept (row:=none) ⟨hb.os,hb.tape,hb.output,hb.size,fun k hk _=>hb.block k hk⟩ (by cases hv:v.ownBlock with|none=>exact .inl rfl|some x=>exact .inr (by simp))
theorem Br.below {B:Nat}{L:Pn}{p q:Pl}{w w':World}(h:Br B L p q w)(hb:Below w.heap.size w w'):Br B L p q w':=⟨Be h.1 hb,Be h.2 hb⟩
theorem Br.off {B:Nat}{L:Pn}{p q:Pl}{w:World}(h:Br B L p q w){g:Nat}(hg:g<B):PnOff g L p q:=⟨A7 h.1 hg,A7 h.2 hg⟩
theorem Br.set {B:Nat}{L:Pn}{p q:Pl}{w:World}(h:Br B L p q w){a:Addr}(ha:a.block<B)(v:Value):Br B L p q (w.setCell a v):=
 ⟨ownsRow_setCell_other h.1 (a:=a) (fun e=>by have:=(h.1.lt _ e).1;omega) v,ownsRow_setCell_other h.2 (a:=a) (fun e=>by have:=(h.2.lt _ e).1;omega) v⟩
def RetJr (B:Nat)(D:Dk)(p q:Pl)(X:Dk×Jr×Int)(e:Ending)(w:World):Prop:=
 ∃p' q',e=.returned (.tuple #[dval X.1 p' q',jval X.2.1,.int .i64 X.2.2])/\IsDk w X.1 p' q'/\∀g,g<B->DkOff g D p q->DkOff g X.1 p' q'
theorem JY (D:Dk)(k:Int)(l:List (List UInt8))(L:Pn)(G1 G2 G:Nat):runAll [.flush,.rows G1 G2 k l,.flush,.laid G L] D=comSteps D k l L:=by
 unfold comSteps;rw[runAll,Stp.run];by_cases h1:D.flush.2=0
 · rw[if_neg (by rw[h1];simp),Dk.next_zero h1,runAll,Stp.run];by_cases h2:(Dk.layIn (rowsFrom k l) D.flush.1).2=0
   · rw[if_neg (by rw[h2];simp),Dk.next_zero h2,runAll,Stp.run];by_cases h3:(Dk.layIn (rowsFrom k l) D.flush.1).1.flush.2=0
     · rw[if_neg (by rw[h3];simp),Dk.next_zero h3,runAll,Stp.run]
       split
       · rfl
       · rename_i h4
         have h4:(Pn.lay (Dk.layIn (rowsFrom k l) D.flush.1).1.flush.1 L).2=0:=by simpa using h4
         exact Prod.ext rfl h4.symm
     · rw[if_pos h3,Dk.next_err h3]
   · rw[if_pos h2,Dk.next_err h2,Dk.next_err h2]
 · rw[if_pos h1,Dk.next_err h1,Dk.next_err h1,Dk.next_err h1]
theorem BB (w:World)(a b c d e:Obj):Below w.heap.size w ((((((w.alloc a).alloc b).alloc c).alloc d).alloc e).drew):=
 (((((Yz (W:=w) a).alloc (by simp) b).alloc (by simp;omega) c).alloc (by simp;omega) d).alloc (by simp;omega) e).drew
theorem L7 (k:Int)(A:Option Addr)(n c:Nat)(w:World):Calls Tryz.prog 122 #[.int .i64 k,.slice A n c] w fun e w'=>e=.returned (.func (.func 153) #[] #[.pointer (some ⟨w.heap.size+1,0,none⟩),.pointer (some ⟨w.heap.size,0,none⟩)])/\w'=(w.alloc (.cells #[.int .i64 k] 3)).alloc (.cells #[.slice A n c] 61):=by
 go_enter Tryz.func122,Tryz.ntmps122;go_wp2_with fail
 go_ret
 exact⟨rfl,rfl⟩
theorem L4 (A B:Option Addr)(n m c d:Nat)(w:World):Calls Tryz.prog 123 #[.agg #[.slice A n c,.slice B m d]] w fun e w'=>e=.returned (.func (.func 155) #[] #[.pointer (some ⟨w.heap.size,0,none⟩)])/\w'=w.alloc (.cells #[.slice A n c,.slice B m d] 63):=by
 go_enter Tryz.func123,Tryz.ntmps123;go_wp2_with fail
 go_ret
 exact⟨rfl,rfl⟩
theorem L1 (D:Dk)(j:Jr)(L:Pn)(p q p' q':Pl)(w:World)(hD:IsDk w D p q)(h0:L.targets=[]):
 CX 78 #[dval D p q,jval j,pval L p' q'] w (RetJr w.heap.size D p q (jrCommit D j L)):=by
 have Hw:=hid (show jrCommit D j L=(D,j,0) by unfold jrCommit;rw[if_pos h0]);have a6:L.targets.length=0:=by rw[h0];rfl
 have a5:=hD.apart (Nat.le_refl _);have HD:=hid (fun(W:World)(hb:Below w.heap.size w W)=>(hD.below hb:IsDk W D p q));clear hD h0;obtain⟨A1,a1⟩:=p;obtain⟨A2,a2⟩:=q;obtain⟨B1,b1⟩:=p';obtain⟨B2,b2⟩:=q';obtain⟨sj,pj⟩:=j;have hB:=Y0 w;have x:=apc5 (Blk.new w 25) D A1 a1 A2 a2;have a0:=Ya hB x;have y:=Yd a0 30 #[.int .u64 sj,.int .i64 pj];simp only[Ys]at y;have yk:=blk2 y;have a3:=Ya a0 y;obtain⟨a7,a4⟩:=Z5 (Yc x a3);go_enter Tryz.func78,Tryz.ntmps78;go_wp2_with fail
 go_region
 go_wp2_with fail
 refine bodyPost_ret (v:=.tuple #[dval D ⟨A1,a1⟩ ⟨A2,a2⟩,jval ⟨sj,pj⟩,.int .i64 0]) (by simp[results,Tryz.results78,go_sem]) rfl ?_;refine⟨⟨_,_,by rw[Hw.out],?_,?_⟩,BB _ _ _ _ _ _⟩
 · rw[Hw.out];exact HD.out _ (BB _ _ _ _ _ _)
 · rw[Hw.out];exact fun _ _ h=>h
theorem LZ (D:Dk)(j:Jr)(L:Pn)(p q p' q':Pl)(w:World)(hD:IsDk w D p q)(h0:L.targets≠[])(hl:L.targets.length<=24)(h1:4611686018427387904<=j.seq)(h2:j.seq<18446744073709551616):
 CX 78 #[dval D p q,jval j,pval L p' q'] w (RetJr w.heap.size D p q (jrCommit D j L)):=by
 have Hw:=hid (show jrCommit D j L=(D,j,10) by unfold jrCommit;rw[if_neg h0,if_pos h1]);have ao:=List.length_pos_iff.2 h0;have an:((L.targets.length:Int)==0)=false:=by rw[beq_eq_false_iff_ne];omega
 have HD:=hid (fun(W:World)(hb:Below w.heap.size w W)=>(hD.below hb:IsDk W D p q));have g1:(4611686018427387904:Int)<=(j.seq:Int):=by omega
 clear hD h0;obtain⟨A1,a1⟩:=p;obtain⟨A2,a2⟩:=q;obtain⟨B1,b1⟩:=p';obtain⟨B2,b2⟩:=q';obtain⟨sj,pj⟩:=j;simp only at h1 h2 g1;have hB:=Y0 w;have x:=apc5 (Blk.new w 25) D A1 a1 A2 a2;have a6:=Ya hB x;have y:=Yd a6 30 #[.int .u64 sj,.int .i64 pj];simp only[Ys]at y;have a5:=Ya a6 y;have af:=Yc x a5;have z:=apc2 (Yd a5 63) L B1 b1 B2 b2;simp only[Ys]at z;have a4:=Ya a5 z;have ag:=Yc af a4;obtain⟨aj,al⟩:=Z2 (Yc y a4);have r:=Yd a4 25 #[.string (bs []),.slice none 0 0,.int .i64 0,.bool false,.slice none 0 0];simp only[Ys]at r;have a3:=Ya a4 r;have ah:=Yc ag a3;have ak:=Yc aj a3;have a8:=Yc z a3;have s:=Yd a3 30 #[.int .u64 0,.int .i64 0];simp only[Ys]at s;have a0:=Ya a3 s;obtain⟨ae,aa⟩:=Z5 (Yc ah a0);obtain⟨ai,ab⟩:=Z2 (Yc ak a0);obtain⟨am,ac⟩:=Z2 (Yc a8 a0);obtain⟨ad,a9,a7⟩:=Z5f (Yc r a0);go_enter Tryz.func78,Tryz.ntmps78;go_wp2_with fail
 go_region
 go_wp2_with fail
 refine bodyPost_ret (v:=.tuple #[dval D ⟨A1,a1⟩ ⟨A2,a2⟩,jval ⟨sj,pj⟩,.int .i64 10]) (by simp[results,Tryz.results78,go_sem]) rfl ?_;refine⟨⟨_,_,by rw[Hw.out],?_,?_⟩,BB _ _ _ _ _ _⟩
 · rw[Hw.out];exact HD.out _ (BB _ _ _ _ _ _)
 · rw[Hw.out];exact fun _ _ h=>h
structure StepsAt (V W:World) (tk tl tp tf:TypeId) (k:Int) (C:Option Addr) (n d:Nat) (P:Array Value) (F:List Value):Prop where
 below:Below V.heap.size V W
 k:Blk W V.heap.size tk #[.int .i64 k]
 l:Blk W (V.heap.size+1) tl #[.slice C n d]
 p:Blk W (V.heap.size+1+1) tp P
 f:Blk W (V.heap.size+1+1+1) tf F.toArray
theorem PI (V:World)(tk tl tp tf:TypeId)(k:Int)(C:Option Addr)(n d:Nat)(P:Array Value)(F:List Value):
 StepsAt V ((((V.drew.alloc (.cells #[.int .i64 k] tk)).alloc (.cells #[.slice C n d] tl)).alloc (.cells P tp)).alloc (.cells F.toArray tf)) tk tl tp tf k C n d P F:=by
 have s1:=Blk.new V.drew tk #[.int .i64 k];have s2:=Blk.new (V.drew.alloc (.cells #[.int .i64 k] tk)) tl #[.slice C n d];have s3:=Blk.new ((V.drew.alloc (.cells #[.int .i64 k] tk)).alloc (.cells #[.slice C n d] tl)) tp P;have s4:=Blk.new (((V.drew.alloc (.cells #[.int .i64 k] tk)).alloc (.cells #[.slice C n d] tl)).alloc (.cells P tp)) tf F.toArray;simp only[Ys]at s2 s3 s4;exact⟨(((((Y0 V).drew).alloc (Nat.le_refl _) _).alloc (by simp) _).alloc (by simp;omega) _).alloc (by simp;omega) _,((s1.alloc _).alloc _).alloc _,(s2.alloc _).alloc _,s3.alloc _,s4⟩
theorem Jy {w W U:World}{B g:Nat}(h:Below B w W)(hg:W.grownBy U (some g))(hB:B<=g)(hl:B<=W.heap.size):Below B w U:=
 ⟨hg.os.trans h.os,hg.tape.trans h.tape,hg.output.trans h.output,Nat.le_trans h.size hg.size,fun k hk=>(hg.block k (Nat.lt_of_lt_of_le hk hl) (by intro e;injection e with e;omega)).trans (h.block k hk)⟩
theorem GD {j:Jr}{L:Pn}(hL:L.Fit)(h0:L.targets≠[]):(⟨j.seq,L⟩:Tx).write=(jrRows j L,0)/\(jrRows j L).length<=27/\(∀s∈jrRows j L,s.length=64)/\0<(jrRows j L).length:=by
 have a0:(⟨j.seq,L⟩:Tx).Ok:=⟨hL,h0⟩;have hw:(⟨j.seq,L⟩:Tx).write=((⟨j.seq,L⟩:Tx).rows,0):=by unfold Tx.write;rw[if_pos a0]
 have e:jrRows j L=(⟨j.seq,L⟩:Tx).rows:=by unfold jrRows;rw[hw]
 refine⟨by rw[e];exact hw,by have:=DT (⟨j.seq,L⟩:Tx);rw[hw]at this;rw[e];exact this,by rw[e];exact Tx.rows_64 a0,by rw[e];simp[Tx.rows]⟩
theorem LY (D:Dk)(j:Jr)(L:Pn)(p q p' q':Pl)(w:World)(hD:IsDk w D p q)(hL:IsPn w L p' q')(hf:D.fit=true)(hfl:L.Fit)(h0:L.targets≠[])(h1:j.seq<4611686018427387904)(h2: -9223372036854775808<=j.pos/\j.pos<=9223372036854775807):
 CX 78 #[dval D p q,jval j,pval L p' q'] w (RetJr w.heap.size D p q (jrCommit D j L)):=by
 obtain⟨r1,r2,r3,r4⟩:=GD (j:=j) hfl h0;have c1:=fun(W:World)(hb:Below w.heap.size w W)=>QH ⟨j.seq,L⟩ p' q' W (hL.below hb) (by simp only;omega)
 rw[r1]at c1;have aN:=Di (pos:=j.pos) (size:=((jrRows j L).length:Int)) (by omega) (by omega);have c2:=fun(W:World)=>L6 j.pos ((jrRows j L).length:Int) h2 ⟨by omega,by omega⟩ W
 have Hw:=hid (show jrCommit D j L=if(comSteps D (6+jrAt j L) (jrRows j L) L).2≠0 then((comSteps D (6+jrAt j L) (jrRows j L) L).1,j,(comSteps D (6+jrAt j L) (jrRows j L) L).2)
  else((comSteps D (6+jrAt j L) (jrRows j L) L).1,⟨j.seq+1,jrAt j L+(jrRows j L).length⟩,0) by
  unfold jrCommit;rw[if_neg h0,if_neg (by omega)])
 have e1:jrAt j L=jrPlace j.pos ((jrRows j L).length:Int):=rfl;rw[e1]at Hw;clear e1 r1;generalize jrRows j L=R at*;generalize jrPlace j.pos (R.length:Int)=at_ at*;have aP:=List.length_pos_iff.2 h0;have aJ:=hfl.2.1;have az:=hfl.1;have aO:((L.targets.length:Int)==0)=false:=by rw[beq_eq_false_iff_ne];omega
 have HD:=hid (fun(W:World)(hb:Below w.heap.size w W)=>(hD.below hb:IsDk W D p q));have ar:=hid (fun g (hg:w.heap.size<=g)=>hD.apart hg);have HL:=hid (fun(W:World)(hb:Below w.heap.size w W)=>(hL.below hb:IsPn W L p' q'));have g1:¬(4611686018427387904:Int)<=(j.seq:Int):=by omega
 have w6:=i64w (x:=6+at_) ⟨by omega,by omega⟩;have w7:=i64w (x:=at_+(R.length:Int)) ⟨by omega,by omega⟩;have w8:=u64w (x:=(j.seq:Int)+1) ⟨by omega,by omega⟩;have aH:=hid az;clear hD hL h0 hfl az;obtain⟨A1,a1⟩:=p;obtain⟨A2,a2⟩:=q;obtain⟨B1,b1⟩:=p';obtain⟨B2,b2⟩:=q';obtain⟨sj,pj⟩:=j;simp only at h1 h2 g1 c1 c2 w8;have hB:=Y0 w;obtain⟨x,xk⟩:=Z5 (apc5 (Blk.new w 25) D A1 a1 A2 a2);have ad:=Ya hB x;have y:=Yd ad 30 #[.int .u64 sj,.int .i64 pj];simp only[Ys]at y;have yk:=blk2 y;have ac:=Ya ad y;have aC:=Yc x ac;have z:=apc2 (Yd ac 63) L B1 b1 B2 b2;simp only[Ys]at z;have zk:=blk2 z;have a7:=Ya ac z;have aD:=Yc aC a7;have aF:=Yc y a7;have r:=Yd a7 25 #[.string (bs []),.slice none 0 0,.int .i64 0,.bool false,.slice none 0 0];simp only[Ys]at r;have a6:=Ya a7 r;have aE:=Yc aD a6;have aG:=Yc aF a6;have an:=Yc z a6;have s:=Yd a6 30 #[.int .u64 0,.int .i64 0];simp only[Ys]at s;have a3:=Ya a6 s;have ak:=Yc aE a3;obtain⟨al,am⟩:=Z2 (Yc aG a3);obtain⟨ao,ap⟩:=Z2 (Yc an a3);have aj:=Yc r a3;go_enter Tryz.func78,Tryz.ntmps78;go_wp2_with fail
 refine((c1 _ a3)).mono ?_;rintro e w1 ⟨⟨v1,rfl,own1⟩,hb1⟩;replace hB:=bt a3 hb1;replace x:=ak.bl hb1;replace xk:=blk5 x;replace y:=al.bl hb1;replace yk:=blk2 y;replace z:=ao.bl hb1;replace zk:=blk2 z;replace r:=aj.bl hb1;replace s:=s.bl hb1;clear ad ac aC a7 aD aF a6 aE aG an a3 ak am al ap ao aj;simp only at own1;obtain⟨C1,d1,rfl,u1,u2,u3⟩:=Aw own1;have ab:=Cells.of_own own1;have aA:=fun g (hg:w1.heap.size<=g)=>Cj ab (Nat.le_refl _) hg
 go_wp2_with fail
 refine((Ce _)).mono ?_;rintro e w2 ⟨rfl,hb2⟩;replace hB:=bt hB hb2;replace x:=x.bl hb2;replace xk:=blk5 x;replace y:=y.bl hb2;replace yk:=blk2 y;replace z:=z.bl hb2;replace zk:=blk2 z;replace r:=r.bl hb2;replace s:=s.bl hb2;replace ab:=ab.below hb2;have au:=hb2.size;go_wp2_with fail
 refine((c2 _)).mono ?_;rintro e w3 ⟨rfl,hb3⟩;replace hB:=bt hB hb3;replace x:=x.bl hb3;replace xk:=blk5 x;replace y:=y.bl hb3;replace yk:=blk2 y;replace z:=z.bl hb3;replace zk:=blk2 z;replace r:=r.bl hb3;replace s:=s.bl hb3;replace ab:=ab.below hb3;have aw:w.heap.size<=w3.heap.size:=hB.size;have aL:w.heap.size+1+1+1+1<w3.heap.size:=s.lt;have av:w1.heap.size<=w3.heap.size:=Nat.le_trans au hb3.size;have g:=Blk.new w3 176 #[.string (bs D.data),.slice A1 D.cache.length a1,.int .i64 D.fuse,.bool D.off,.slice A2 D.bad.length a2,.int .i64 0];have gk:=blk6 g;have a0:=Ya hB g;obtain⟨ag,a8⟩:=Z5 (Yc x a0);obtain⟨ah,a9⟩:=Z2 (Yc y a0);obtain⟨ai,aa⟩:=Z2 (Yc z a0);have ae:=Yc r a0;have af:=Yc s a0;have a5:=ab.below (Yb a0);go_wp2_with fail
 generalize (w3.alloc (.cells #[.string (bs D.data),.slice A1 D.cache.length a1,.int .i64 D.fuse,.bool D.off,.slice A2 D.bad.length a2,.int .i64 0] 176))=V at a0 ag a8 ah a9 ai aa ae af a5 g gk ⊢;clear hB x y z r s ab xk yk zk;have hB:=a0;have x:=ag;have xk:=a8;have y:=ah;have yk:=a9;have z:=ai;have zk:=aa;have r:=ae;have s:=af;have ab:=a5;clear a0 ag a8 ah a9 ai aa ae af a5;have aI:=g.lt;have aM:=z.lt;have ay:∀W4:World,StepsAt V W4 3 61 63 77 (6+at_) C1 R.length d1 #[.slice B1 L.targets.length b1,.slice B2 L.data.length b2] ([Stp.flush,Stp.rows (V.heap.size+1) V.heap.size (6+at_) R,Stp.flush,Stp.laid (V.heap.size+1+1) L].map Stp.val)->_:=fun W4 hS=>
  L3 [.flush,.rows (V.heap.size+1) V.heap.size (6+at_) R,.flush,.laid (V.heap.size+1+1) L] D ⟨A1,a1⟩ ⟨A2,a2⟩ w3.heap.size (some ⟨V.heap.size+1+1+1,0,none⟩) 4 W4 (g.below hS.below aI) (HD.out _ (bt hB hS.below)) hf (ar.out _ aw) (.inr ⟨_,_,rfl,fun i u hu=>by rw[hS.f.cell,Nat.zero_add];simpa using hu⟩) (fun b off e=>by injection e with e;injection e with e;omega) (by simp) (fun s hs W hgr=>by
   have gk:=hS.k.kept hgr (by simp;omega);have gl:=hS.l.kept hgr (by simp;omega);have gp:=hS.p.kept hgr (by simp;omega);have gc:=(ab.below hS.below).grown hgr (aA _ av) (fun e=>List.length_eq_zero_iff.1 e);have gL:=(HL.out _ (bt hB hS.below)).grown hgr ((HL.out _ (Below.refl _ _)).apart aw);simp only[List.mem_cons,List.not_mem_nil,or_false]at hs
   rcases hs with rfl|rfl|rfl|rfl
   · exact trivial
   · exact⟨C1,d1,gl,gk,gc,⟨by omega,by omega⟩,by omega,fun s hs=>by rw[r3 s hs];omega⟩
   · exact trivial
   · exact⟨⟨B1,b1⟩,⟨B2,b2⟩,gp,gL,aH.out,by omega⟩)
 have hS:=PI V 3 61 63 77 (6+at_) C1 R.length d1 #[.slice B1 L.targets.length b1,.slice B2 L.data.length b2] ([Stp.flush,Stp.rows (V.heap.size+1) V.heap.size (6+at_) R,Stp.flush,Stp.laid (V.heap.size+1+1) L].map Stp.val);have a4:=ay _ hS;rw[JY]at a4;simp only[List.map_cons,List.map_nil,Stp.val,List.length_cons,List.length_nil]at a4 hS;generalize comSteps D (6+at_) R L=X at a4 Hw;obtain⟨X,xe⟩:=X;simp only at a4 Hw
 go_region_held3 (fun W=>W.cell? ⟨w.heap.size+1+1,0,none⟩=some (.slice B1 L.targets.length b1)/\W.cell? ⟨w.heap.size+1+1,1,none⟩=some (.slice B2 L.data.length b2))
  (first|exact zk|exact blk2 ((z.drew.alloc _).alloc _)|exact blk2 (((z.drew.alloc _).alloc _).alloc _)|exact blk2 ((((z.drew.alloc _).alloc _).alloc _).alloc _)|exact blk2 ((z.below hS.below aM).kept gr5 (by simp;omega)))
  (first|(go_at_call 122;refine(L7 _ _ _ _ _).mono ?_;rintro e W4 ⟨rfl,rfl⟩)|(go_at_call 123;refine(L4 _ _ _ _ _ _ _).mono ?_;rintro e W5 ⟨rfl,rfl⟩)|(go_at_call 121;refine a4.mono ?_;rintro e W6 ⟨rfl,gr5,p5,q5,bk5,is5,og5,of5⟩))
 have y6:=(y.below hS.below y.lt).kept gr5 (by simp;omega);have r6:=(r.below hS.below r.lt).kept gr5 (by simp;omega);have s6:=(s.below hS.below s.lt).kept gr5 (by simp;omega);have aK:=hS.below.size;have B6:=Jy (bt hB hS.below) gr5 aw (Nat.le_trans hB.size aK);have aB:=of5 (w.heap.size+1+1+1) (by omega) (ar.out _ (by omega));have aq:=of5 (w.heap.size+1+1+1+1) (by omega) (ar.out _ (by omega));have ax:=hid (fun b (hb:b<w.heap.size)=>of5 b (by omega));clear a4 ay hS gr5 of5 xk yk zk gk x y z r s g ab aA c1 c2;have k6:=blk6 bk5;have ky:=blk2 y6;have kr:=blk5 r6;have fr:=r6.fz;have ks:=blk2 s6;have fs:=s6.fz;by_cases he:xe=0
 · subst he;go_wp2_with fail
   go_region
   have r7:=(AQ (ap5 (Ap r6) X p5.a p5.c q5.a q5.c) (g:=w.heap.size+1+1+1+1) (by omega) (.int .u64 ((sj:Int)+1)) (.int .i64 (at_+(R.length:Int)))).drew;have s7:=(Aj (ap5 (Au s6 (g:=w.heap.size+1+1+1) (by omega)) X p5.a p5.c q5.a q5.c) (.int .u64 ((sj:Int)+1)) (.int .i64 (at_+(R.length:Int)))).drew;have i7:=((ap5 (is5.off5 aB) X p5.a p5.c q5.a q5.c).off (a:=⟨w.heap.size+1+1+1+1,0,none⟩) aq (.int .u64 ((sj:Int)+1))).off (a:=⟨w.heap.size+1+1+1+1,1,none⟩) aq (.int .i64 (at_+(R.length:Int)));have B7:=(Ae (ap5 (Ao B6 (g:=w.heap.size+1+1+1) (by omega)) X p5.a p5.c q5.a q5.c) (g:=w.heap.size+1+1+1+1) (by omega) (.int .u64 ((sj:Int)+1)) (.int .i64 (at_+(R.length:Int)))).drew;have yr:=blk5 r7;have ys:=blk2 s7;go_wp2_with fail
   refine bodyPost_ret (v:=.tuple #[dval X p5 q5,.agg #[.int .u64 ((sj:Int)+1),.int .i64 (at_+(R.length:Int))],.int .i64 0]) (by simp[results,Tryz.results78,go_sem,yr,ys]) rfl ?_;exact⟨⟨p5,q5,by rw[Hw.out,if_neg (by simp)];rfl,by rw[Hw.out,if_neg (by simp)];exact i7.below (Below.refl _ _).drew,by rw[Hw.out,if_neg (by simp)];exact fun b hb h=>ax.out b hb h⟩,B7⟩
 · have n1:(xe !=0)=true:=by simpa using he
   go_wp2_with fail
   go_region
   have r7:=(AQ (ap5 (Ap r6) X p5.a p5.c q5.a q5.c) (g:=w.heap.size+1+1+1+1) (by omega) (.int .u64 (sj:Int)) (.int .i64 pj)).drew;have s7:=(Aj (ap5 (Au s6 (g:=w.heap.size+1+1+1) (by omega)) X p5.a p5.c q5.a q5.c) (.int .u64 (sj:Int)) (.int .i64 pj)).drew;have i7:=((ap5 (is5.off5 aB) X p5.a p5.c q5.a q5.c).off (a:=⟨w.heap.size+1+1+1+1,0,none⟩) aq (.int .u64 (sj:Int))).off (a:=⟨w.heap.size+1+1+1+1,1,none⟩) aq (.int .i64 pj);have B7:=(Ae (ap5 (Ao B6 (g:=w.heap.size+1+1+1) (by omega)) X p5.a p5.c q5.a q5.c) (g:=w.heap.size+1+1+1+1) (by omega) (.int .u64 (sj:Int)) (.int .i64 pj)).drew;have yr:=blk5 r7;have ys:=blk2 s7;go_wp2_with fail
   refine bodyPost_ret (v:=.tuple #[dval X p5 q5,.agg #[.int .u64 (sj:Int),.int .i64 pj],.int .i64 xe]) (by simp[results,Tryz.results78,go_sem,yr,ys]) rfl ?_;exact⟨⟨p5,q5,by rw[Hw.out,if_pos he],by rw[Hw.out,if_pos he];exact i7.below (Below.refl _ _).drew,by rw[Hw.out,if_pos he];exact fun b hb h=>ax.out b hb h⟩,B7⟩
theorem LX (D:Dk)(j:Jr)(L:Pn)(p q p' q':Pl)(w:World)(hD:IsDk w D p q)(hL:IsPn w L p' q')(hf:D.fit=true)(hfl:L.Fit)(h1:j.seq<18446744073709551616)(h2: -9223372036854775808<=j.pos/\j.pos<=9223372036854775807):
 CX 78 #[dval D p q,jval j,pval L p' q'] w (RetJr w.heap.size D p q (jrCommit D j L)):=by
 by_cases h0:L.targets=[]
 · exact L1 D j L p q p' q' w hD h0
 · rcases Nat.lt_or_ge j.seq 4611686018427387904 with h|h
   · exact LY D j L p q p' q' w hD hL hf hfl h0 h h2
   · exact LZ D j L p q p' q' w hD h0 hfl.2.1 h h1
theorem Pr {x:Int}(h:sectorOk x=true):∃k:Nat,x=k/\k<1024:=by
 simp only[sectorOk,Bool.and_eq_true,decide_eq_true_eq]at h;obtain⟨k,rfl⟩:=Int.eq_ofNat_of_zero_le h.1;exact⟨k,rfl,by omega⟩
theorem Ov (t:Tx)(p q:Pl)(w:World)(hL:IsPn w t.plan p q)(ht:¬t.Ok):
 CX 110 #[tval t p q] w (RetRows w 9 t.write):=by
 have Hw:=hid (show t.write=([],25) by unfold Tx.write;rw[if_neg ht]);have a1:=hL.pm;unfold maxLen at a1;have hz:∀W:World,W.ownsRow w.heap.size 9 1 (.slice none 0 0) 0 []:=fun W=>World.ownsRow_nil _ _ _ _
 have x0:=Blk.new w 164 #[.int .u64 t.seq,.slice p.a t.plan.targets.length p.c,.slice q.a t.plan.data.length q.c];have hb:=Yz (W:=w) (.cells #[.int .u64 t.seq,.slice p.a t.plan.targets.length p.c,.slice q.a t.plan.data.length q.c] 164);have k0:=blk3 x0;have a0:=fun(W:World)(hb:Below w.heap.size w W)=>Ib t.plan p q W (hL.below hb)
 by_cases hf:t.plan.Fit
 · have h0:t.plan.targets=[]:=Classical.byContradiction fun h=>ht ⟨hf,h⟩
   rw[Pn.fit_iff.2 hf]at a0;have a2:((t.plan.targets.length:Int)==0)=true:=by simp[h0]
   clear h0 hf ht hL;go_enter Tryz.func110,Tryz.ntmps110;go_wp2_with fail
   refine(a0 _ hb).mono ?_;rintro e w1 ⟨rfl,hb1⟩;go_wp2_with fail
   go_ret2
   exact⟨⟨_,by rw[Hw.out];rfl,by rw[Hw.out];exact hz _⟩,bt hb hb1⟩
 · rw[Pn.fit_no hf]at a0;clear hf ht hL;go_enter Tryz.func110,Tryz.ntmps110;go_wp2_with fail
   refine(a0 _ hb).mono ?_;rintro e w1 ⟨rfl,hb1⟩;go_wp2_with fail
   go_ret2
   exact⟨⟨_,by rw[Hw.out];rfl,by rw[Hw.out];exact hz _⟩,bt hb hb1⟩
theorem Ow (t:Tx)(p q:Pl)(w:World)(hL:IsPn w t.plan p q)(hs:t.seq<18446744073709551616)(ht:t.Ok):
 CX 110 #[tval t p q] w (RetRows w 9 t.write):=by
 have Hw:=hid (show t.write=(t.rows,0) by unfold Tx.write;rw[if_pos ht]);have ay:=hL.pm;have aX:=hL.pc;unfold maxLen at ay;have hl:=List.length_pos_iff.2 ht.2;have a7:=ht.1.2.1;have aR:t.plan.data.length=t.plan.targets.length:=ht.1.1.symm;have av:t.plan.data.length<=24:=by omega
 have b2:((t.plan.targets.length:Int)==0)=false:=by rw[beq_eq_false_iff_ne];omega
 have a6:=fun(W:World)(hb:Below w.heap.size w W)=>Ib t.plan p q W (hL.below hb)
 rw[Pn.fit_iff.2 ht.1]at a6;have aq:=hid (fun(W:World)(hb:Below w.heap.size w W)=>hL.targets.below hb);have ad:=hid (fun(W:World)(hb:Below w.heap.size w W)=>hL.data.below hb);have ar:=hid hL.qn;have aj:=hid (fun i (hi:i<t.plan.targets.length)=>Pr (ht.1.2.2.1 i hi).1);have aG:=hid (fun i (hi:i<t.plan.targets.length)=>Ra (l:=t.plan.targets) (i:=i) hi a7);have aF:=hid (fun i (hi:i<t.plan.targets.length)=>Q8 (l:=t.plan.targets) (i:=i) hi a7);have aE:=hid (Jg t.plan.targets);have Hz:=Rb ht.2;have ak:=Tx.rest_64 ht;have aK:=Tx.rest_length ht;have aZ:txSize t.plan.targets.length<=27:=by unfold txSize;split<;>omega
 have ag:=hid (show t.rest=idxRows t.plan.targets++t.plan.data from rfl);have aI:=Es ht.2 a7;have aH:(idxRows t.plan.targets).length<=27:=by omega
 have aB:=hid (show(idxRows t.plan.targets).length+t.plan.data.length=t.rest.length by omega);have aJ:t.rest.length<=27:=by omega
 clear aR aI aK;obtain⟨PA,PC⟩:=p;obtain⟨QA,QC⟩:=q;simp only at ay aX aq ad ar;have x0:=Blk.new w 164 #[.int .u64 t.seq,.slice PA t.plan.targets.length PC,.slice QA t.plan.data.length QC];have hb:=Yz (W:=w) (.cells #[.int .u64 t.seq,.slice PA t.plan.targets.length PC,.slice QA t.plan.data.length QC] 164);have aU:∀W,Calls Tryz.prog 86 #[.int .u64 t.seq,.int .i64 8] W fun e w'=>e=.returned (.string (bs (be 8 t.seq)))/\Below W.heap.size W w':=fun W=>BS t.seq 8 hs (by omega) (by omega) W
 have aT:∀W,Calls Tryz.prog 86 #[.int .u64 t.plan.targets.length,.int .i64 2] W fun e w'=>e=.returned (.string (bs (be 2 t.plan.targets.length)))/\Below W.heap.size W w':=fun W=>BS t.plan.targets.length 2 (by omega) (by omega) (by omega) W
 have aV:∀W,Calls Tryz.prog 86 #[.int .u64 (65535-t.plan.targets.length:Nat),.int .i64 2] W fun e w'=>e=.returned (.string (bs (be 2 (65535-t.plan.targets.length))))/\Below W.heap.size W w':=fun W=>BS (65535-t.plan.targets.length) 2 (by omega) (by omega) (by omega) W
 have b0:be 8 t.seq++be 2 t.plan.targets.length=t.head:=rfl;have aw:=t.head_length;have aW:=fun W=>DF t.head (by rw[aw];decide) W
 have au:crcMore (crcOf t.head) t.rest.flatten=crcOf (t.head++t.rest.flatten):=C3 (by omega) _ _;have aQ:crcOf (t.head++t.rest.flatten)<4294967296:=A6 _ _;have hch:crcOf t.head<4294967296:=A6 _ _;have ah:At (magicJ++t.head++be 2 (65535-t.plan.targets.length)++be 4 (crcOf (t.head++t.rest.flatten)))=t.top:=rfl;have a4:t.rows=t.top::t.rest:=rfl;have a3:=hid a4;have aN:(be 4 (crcOf (t.head++t.rest.flatten))).length=4:=Ar _ _;have aL:(be 2 (65535-t.plan.targets.length)).length=2:=Ar _ _;have aO:(be 8 t.seq).length=8:=Ar _ _;have aM:(be 2 t.plan.targets.length).length=2:=Ar _ _;have aP:=fun W=>DE (crcOf (t.head++t.rest.flatten)) aQ W
 have a8:=fun W=>If (magicJ++t.head++be 2 (65535-t.plan.targets.length)++be 4 (crcOf (t.head++t.rest.flatten))) (by simp only[List.length_append,aw,aL,aN];decide) W
 rw[ah]at a8;have ac:=hid au;have aD:=hid (fun i (hi:i<t.rest.length)=>Kc hch t.rest i hi);have wn:=u64w (x:=(t.plan.targets.length:Int)) ⟨by omega,by omega⟩;have wt:=u64w (x:=65535-(t.plan.targets.length:Int)) ⟨by omega,by omega⟩;have b4:=i64w (x:=65535-(t.plan.targets.length:Int)) ⟨by omega,by omega⟩;have b3:=i64w (x:=(t.plan.targets.length:Int)-1) ⟨by omega,by omega⟩;have et:(65535:Int)-(t.plan.targets.length:Int)=((65535-t.plan.targets.length:Nat):Int):=by omega
 obtain⟨i0,hi,iz0,iz1,iz2⟩:=info_parts Tryz.infoStrP;clear hL ah a4 ht au;generalize t.rest=R at*;generalize t.head=H at*;generalize t.top=TP at*;generalize be 4 (crcOf (H++R.flatten))=B4 at*;generalize crcOf (H++R.flatten)=C at*;generalize crcOf H=C0 at*;generalize be 2 (65535-t.plan.targets.length)=BT at*;generalize (65535-t.plan.targets.length:Nat)=mt at*;generalize be 8 t.seq=B8 at*;generalize be 2 t.plan.targets.length=B2 at*;have ae:magicJ++H++BT++B4=67::79::70::74::(H++(BT++B4)):=by simp[magicJ]
 rw[ae]at a8;clear ae;have k0:=blk3 x0;go_enter Tryz.func110,Tryz.ntmps110;go_wp2_with fail
 refine(a6 _ hb).mono ?_;rintro e w1 ⟨rfl,hb1⟩;have x1:=x0.bl hb1;have b1:=bt hb hb1;clear k0 a6;go_wp2_with fail
 go_loopw [5,6,7] (fun v s i W=>∃(k:Nat)(X:List (List UInt8))(z:List UInt8),k<=t.plan.targets.length/\i=.int .i64 k/\s=.string (bs z)/\Hid (wrSt t.plan.targets k=(X,z))/\W.ownsRow (w.heap.size+1) 9 1 v X.length (strCells X)/\Blk W w.heap.size 164 #[.int .u64 t.seq,.slice PA t.plan.targets.length PC,.slice QA t.plan.data.length QC]/\Below w.heap.size w W) (fun _ _ i _=>t.plan.targets.length-(intOf i).toNat)
 case atStart=>exact⟨0,[],[],Nat.zero_le _,rfl,rfl,hid Hz,World.ownsRow_nil _ _ _ _,x1,b1⟩
 case round=>
  obtain⟨k,X,z,hk,rfl,rfl,hst,own,x,hB⟩:=hrel;have xk:=blk3 x;by_cases hlt:k<t.plan.targets.length
  · obtain⟨a,ha,ha'⟩:=aj.out k hlt;have af:=aG.out k hlt;obtain⟨hzl,hXl⟩:=aF.out k hlt;rw[hst.out]at af hzl hXl;rw[ha,Int.toNat_natCast]at af;simp only at af hzl hXl;obtain⟨pb,po,hpa,hcell⟩:=(aq.out _ hB).int hlt;replace hcell:=hcell k hlt;rw[ha]at hcell;subst hpa;have a9:∀W,Calls Tryz.prog 86 #[.int .u64 a,.int .i64 4] W fun e w'=>e=.returned (.string (bs (be 4 a)))/\Below W.heap.size W w':=fun W=>BS a 4 (by omega) (by omega) (by omega) W
    have a2:(be 4 a).length=4:=Ar _ _;have wa:=u64w (x:=(a:Int)) ⟨by omega,by omega⟩;have ax:=fun W=>If (z++be 4 a) (by rw[List.length_append,a2];omega) W
    have Hsn:=hid (IL X (At (z++be 4 a)));generalize be 4 a=ba at*;generalize At (z++ba)=pz at*;have er:(k:Int).tmod 16=((k%16:Nat):Int):=by rw[Int.tmod_eq_emod_of_nonneg (by omega)];rfl
    have hcut:=hid af;clear af ha;by_cases c1:k=t.plan.targets.length-1
    · replace c1:=hid c1;go_wp2_with fail
      refine(a9 _).mono ?_;rintro e w2 ⟨rfl,hb2'⟩;have x2:=x.below hb2' x.lt;have own2:=Be own hb2';have a5:=bt hB hb2';have ab:=blk3 x2;clear xk;have g1:((k:Int)==(t.plan.targets.length:Int)-1)=true:=by rw[beq_iff_eq];have:=c1.out;omega
      go_wp2_with fail
      refine(ax _).mono ?_;rintro e w3 ⟨rfl,hb3⟩;have x3:=x2.bl hb3;have a1:=Be own2 hb3;have B3:=bt a5 hb3;have xA:=x3.alloc (.cells #[.string (bs pz)] 9);have a0:=a1.alloc (.cells #[.string (bs pz)] 9);have BA:=B3.alloc B3.size (.cells #[.string (bs pz)] 9);clear ab;go_wp2_with (at_builtin;refine wpList_append_own _ rfl _ _ 61 rfl (w.heap.size+1) 9 i0 (.string ⟨#[]⟩) 1 16 Tryz.underlying61 hi iz0 iz1 iz2 rfl (by decide) u5 X.length (strCells X) rfl a0 ⟨w3.heap.size,0,none⟩ 1 1 [.string (bs pz)] rfl rfl (World.news_of_block (Blk.new w3 9 #[.string (bs pz)])) (by simp[Value.oneCell']) (by unfold maxLen;omega) (by omega) (Nat.succ_le_of_lt xA.lt) ?_;intro v9 w9 own9 gr9 _;have x9:=xA.kept gr9 (Bm a0 xA (by decide));have B9:=BA.trans ((AW a0 gr9 (Nat.succ_le_of_lt xA.lt)).mono (Nat.le_succ _));have aY:=blk3 x9)
      go_roundw
      case rel=>exact⟨k+1,X++[pz],[],by omega,by go_num,rfl,hid (by rw[hcut.out,if_pos (.inl (by have:=c1.out;omega))]),by rw[List.length_append,List.length_singleton,<-Hsn.out];exact own9,x9,B9⟩
      case measure=>simp[intOf];omega
    · have g1:((k:Int)==(t.plan.targets.length:Int)-1)=false:=by rw[beq_eq_false_iff_ne];omega
      by_cases c2:k%16=15
      · have g2:(((k%16:Nat):Int)==15)=true:=by rw[beq_iff_eq];omega
        replace c2:=hid c2;go_wp2_with fail
        refine(a9 _).mono ?_;rintro e w2 ⟨rfl,hb2'⟩;have x2:=x.below hb2' x.lt;have own2:=Be own hb2';have a5:=bt hB hb2';have ab:=blk3 x2;clear xk;go_wp2_with fail
        refine(ax _).mono ?_;rintro e w3 ⟨rfl,hb3⟩;have x3:=x2.bl hb3;have a1:=Be own2 hb3;have B3:=bt a5 hb3;have xA:=x3.alloc (.cells #[.string (bs pz)] 9);have a0:=a1.alloc (.cells #[.string (bs pz)] 9);have BA:=B3.alloc B3.size (.cells #[.string (bs pz)] 9);clear ab;go_wp2_with (at_builtin;refine wpList_append_own _ rfl _ _ 61 rfl (w.heap.size+1) 9 i0 (.string ⟨#[]⟩) 1 16 Tryz.underlying61 hi iz0 iz1 iz2 rfl (by decide) u5 X.length (strCells X) rfl a0 ⟨w3.heap.size,0,none⟩ 1 1 [.string (bs pz)] rfl rfl (World.news_of_block (Blk.new w3 9 #[.string (bs pz)])) (by simp[Value.oneCell']) (by unfold maxLen;omega) (by omega) (Nat.succ_le_of_lt xA.lt) ?_;intro v9 w9 own9 gr9 _;have x9:=xA.kept gr9 (Bm a0 xA (by decide));have B9:=BA.trans ((AW a0 gr9 (Nat.succ_le_of_lt xA.lt)).mono (Nat.le_succ _));have aY:=blk3 x9)
        go_roundw
        case rel=>exact⟨k+1,X++[pz],[],by omega,by go_num,rfl,hid (by rw[hcut.out,if_pos (.inr c2.out)]),by rw[List.length_append,List.length_singleton,<-Hsn.out];exact own9,x9,B9⟩
        case measure=>simp[intOf];omega
      · have g2:(((k%16:Nat):Int)==15)=false:=by rw[beq_eq_false_iff_ne];omega
        go_wp2_with fail
        refine(a9 _).mono ?_;rintro e w2 ⟨rfl,hb2'⟩;have x2:=x.below hb2' x.lt;have own2:=Be own hb2';have a5:=bt hB hb2';have ab:=blk3 x2;clear xk;go_wp2_with fail
        go_roundw
        case rel=>exact⟨k+1,X,z++ba,by omega,by go_num,rfl,hid (by rw[hcut.out,if_neg (by omega)]),own2,x2,a5⟩
        case measure=>simp[intOf];omega
  · obtain rfl:k=t.plan.targets.length:=by omega
    have hX:=hst.out;rw[aE.out]at hX;obtain⟨rfl,rfl⟩:=Prod.mk.inj hX;have HR:=hid (show strCells (idxRows t.plan.targets)++strCells t.plan.data=strCells R by rw[ag.out];simp[strCells]);clear hX hst;go_wp2_with (at_builtin;refine Bg rfl _ _ 61 rfl (w.heap.size+1) 9 i0 (.string ⟨#[]⟩) 1 16 Tryz.underlying61 hi iz0 iz1 iz2 rfl (by decide) u5 (idxRows t.plan.targets).length (strCells (idxRows t.plan.targets)) rfl own QA t.plan.data.length QC (strCells t.plan.data) rfl (ad.out _ hB) (by rw[strCells_length,Nat.mul_one]) ar.out (Dq _) (by unfold maxLen;omega) (by omega) (Nat.succ_le_of_lt x.lt) ?_;intro v2 w2 own2 bl2;rw[HR.out,aB.out]at own2;have x2:=x.below bl2 (Nat.lt_succ_self _);have a5:=hB.trans (bl2.mono (Nat.le_succ _));have ab:=blk3 x2;clear xk)
    refine(aU _).mono ?_;rintro e w3 ⟨rfl,hb3⟩;have x3:=x2.bl hb3;have a1:=Be own2 hb3;have B3:=bt a5 hb3;clear ab;go_wp2_with fail
    refine(aT _).mono ?_;rintro e w4 ⟨rfl,a2⟩;have aa:=Be a1 a2;have az:=bt B3 a2;clear x3 x2 x x1 x0;go_wp2_with fail
    refine(aW _).mono ?_;rintro e w4' ⟨rfl,rfl⟩;obtain⟨AR,cR,rfl,hR1,hR2,hR3⟩:=Aw aa;go_wp2_with fail
    go_loopw [9,10] (fun s i W=>∃(k:Nat),k<=R.length/\i=.int .i64 k/\s=.int .u32 (crcMore C0 ((R.take k).flatten):Nat)/\W=w4) (fun _ i _=>R.length-(intOf i).toNat)
    case atStart=>exact⟨0,Nat.zero_le _,rfl,by simp[FP hch],rfl⟩
    case round=>
     obtain⟨k,hk,rfl,rfl,rfl⟩:=hrel;by_cases hlt:k<R.length
     · obtain⟨pb,po,hpa,hcell⟩:=(Cells.of_own aa).str hlt;subst hpa;replace hcell:=hcell k hlt;have aS:crcMore C0 ((R.take k).flatten)<4294967296:=A6 _ _;have hm:=fun W=>H0 (crcMore C0 ((R.take k).flatten)) aS R[k] (by rw[ak _ (List.getElem_mem hlt)];decide) W
       rw[aD.out k hlt]at hm;generalize R[k]=rk at*;generalize crcMore C0 ((R.take k).flatten)=ck at*;obtain⟨cn,hcn⟩:∃cn,crcMore C0 ((R.take (k+1)).flatten)=cn:=⟨_,rfl⟩;have Hcn:=hid hcn;rw[hcn]at hm;clear hcn;go_wp2_with fail
       refine(hm _).mono ?_;rintro e w5 ⟨rfl,rfl⟩;go_wp2_with fail
       go_roundw
       case rel=>exact⟨k+1,by omega,by go_num,by rw[Hcn.out],trivial⟩
       case measure=>simp[intOf];omega
     · obtain rfl:k=R.length:=by omega
       rw[List.take_length,ac.out];go_wp2_with fail
       refine(aV _).mono ?_;rintro e w5 ⟨rfl,hb5⟩;have am:=Be aa hb5;have B5:=bt az hb5;go_wp2_with fail
       refine(aP _).mono ?_;rintro e w6 ⟨rfl,hb6⟩;have an:=Be am hb6;have B6:=bt B5 hb6;go_wp2_with fail
       refine(a8 _).mono ?_;rintro e w7 ⟨rfl,hb7⟩;have ao:=Be an hb7;have B7:=bt B6 hb7;have al:=World.ownsRow_lit (base:=w.heap.size) (e:=9) (size:=1) w7 #[.string (bs TP)] 1 B7.size (by unfold maxLen;omega) rfl;have ai:=ao.alloc (.cells #[.string (bs TP)] 9);have ap:=B7.alloc B7.size (.cells #[.string (bs TP)] 9);have HT:=hid (show [Value.string (bs TP)]++strCells R=strCells t.rows by rw[a3.out];rfl);have aC:1+R.length=t.rows.length:=by rw[a3.out,List.length_cons];omega
       go_wp2_with (at_builtin;refine Bg rfl _ _ 61 rfl w.heap.size 9 i0 (.string ⟨#[]⟩) 1 16 Tryz.underlying61 hi iz0 iz1 iz2 rfl (by decide) _ 1 [.string (bs TP)] rfl al AR R.length cR (strCells R) rfl (Cells.of_own ai) (by rw[strCells_length,Nat.mul_one]) hR3 (Dq _) (by unfold maxLen;omega) (by omega) ap.size ?_;intro v8 w8 own8 bl8;rw[HT.out,aC]at own8;have aA:=ap.trans bl8)
       go_ret2
       exact⟨⟨_,by rw[Hw.out];rfl,by rw[Hw.out];exact own8⟩,aA⟩
theorem Ou (t:Tx)(p q:Pl)(w:World)(hL:IsPn w t.plan p q)(hs:t.seq<18446744073709551616):
 CX 110 #[tval t p q] w (RetRows w 9 t.write):=by
 by_cases h:t.Ok
 · exact Ow t p q w hL hs h
 · exact Ov t p q w hL h
structure LayBox5 (V:World) (B0:Nat) (t:TypeId) (D0:Dk) (p0 q0:Pl) (X:Dk):Prop where
 ex:∃p q:Pl,Blk V B0 t #[.string (bs X.data),.slice p.a X.cache.length p.c,.int .i64 X.fuse,.bool X.off,.slice q.a X.bad.length q.c]/\IsDk V X p q/\(∀g,g<=B0+1+1->(g<B0->DkOff g D0 p0 q0)->DkOff g X p q)
 zero:Blk V (B0+1+1) t #[.string (bs []),.slice none 0 0,.int .i64 0,.bool false,.slice none 0 0]
theorem Cc {wr V W:World}{B c1 o1 c2 o2:Nat}{u0 u1 u2 u3 u4 t0 t1 x0 x1:Value}(h:(V.cell? ⟨B,0,none⟩=some u0/\V.cell? ⟨B,1,none⟩=some u1/\V.cell? ⟨B,2,none⟩=some u2/\V.cell? ⟨B,3,none⟩=some u3/\V.cell? ⟨B,4,none⟩=some u4)/\(V.cell? ⟨B+1,0,none⟩=some t0/\V.cell? ⟨B+1,1,none⟩=some t1)/\
 (V.cell? ⟨c1,o1,none⟩=some x0/\V.cell? ⟨c2,o2,none⟩=some x1)/\Below wr.heap.size wr V) (hb:Below V.heap.size V W):
 (W.cell? ⟨B,0,none⟩=some u0/\W.cell? ⟨B,1,none⟩=some u1/\W.cell? ⟨B,2,none⟩=some u2/\W.cell? ⟨B,3,none⟩=some u3/\W.cell? ⟨B,4,none⟩=some u4)/\(W.cell? ⟨B+1,0,none⟩=some t0/\W.cell? ⟨B+1,1,none⟩=some t1)/\
  (W.cell? ⟨c1,o1,none⟩=some x0/\W.cell? ⟨c2,o2,none⟩=some x1)/\Below wr.heap.size wr W:=by
 obtain⟨⟨a,b,c,d,e⟩,⟨f,g⟩,⟨i,j⟩,k⟩:=h;exact⟨⟨Av hb a,Av hb b,Av hb c,Av hb d,Av hb e⟩,⟨Av hb f,Av hb g⟩,⟨Av hb i,Av hb j⟩,bt k hb⟩
theorem LL {wr V:World}{B c1 o1 c2 o2:Nat}{u0 u1 u2 u3 u4 t0 t1 x0 x1:Value}(h:(V.cell? ⟨B,0,none⟩=some u0/\V.cell? ⟨B,1,none⟩=some u1/\V.cell? ⟨B,2,none⟩=some u2/\V.cell? ⟨B,3,none⟩=some u3/\V.cell? ⟨B,4,none⟩=some u4)/\(V.cell? ⟨B+1,0,none⟩=some t0/\V.cell? ⟨B+1,1,none⟩=some t1)/\
 (V.cell? ⟨c1,o1,none⟩=some x0/\V.cell? ⟨c2,o2,none⟩=some x1)/\Below wr.heap.size wr V) (o:Obj):
 ((V.alloc o).cell? ⟨B,0,none⟩=some u0/\(V.alloc o).cell? ⟨B,1,none⟩=some u1/\(V.alloc o).cell? ⟨B,2,none⟩=some u2/\(V.alloc o).cell? ⟨B,3,none⟩=some u3/\(V.alloc o).cell? ⟨B,4,none⟩=some u4)/\((V.alloc o).cell? ⟨B+1,0,none⟩=some t0/\(V.alloc o).cell? ⟨B+1,1,none⟩=some t1)/\
  ((V.alloc o).cell? ⟨c1,o1,none⟩=some x0/\(V.alloc o).cell? ⟨c2,o2,none⟩=some x1)/\Below wr.heap.size wr (V.alloc o):=Cc h (Yz o)
theorem LM {wr V:World}{B c1 o1 c2 o2 g:Nat}{u0 u1 u2 u3 u4 t0 t1 x0 x1:Value}(h:(V.cell? ⟨B,0,none⟩=some u0/\V.cell? ⟨B,1,none⟩=some u1/\V.cell? ⟨B,2,none⟩=some u2/\V.cell? ⟨B,3,none⟩=some u3/\V.cell? ⟨B,4,none⟩=some u4)/\(V.cell? ⟨B+1,0,none⟩=some t0/\V.cell? ⟨B+1,1,none⟩=some t1)/\
 (V.cell? ⟨c1,o1,none⟩=some x0/\V.cell? ⟨c2,o2,none⟩=some x1)/\Below wr.heap.size wr V) (hg:wr.heap.size<=g) (hB:B+1<g) (hc:c1<g/\c2<g) (v0 v1 v2 v3 v4:Value) {W:World} (e:W=((((V.setCell ⟨g,0,none⟩ v0).setCell ⟨g,1,none⟩ v1).setCell ⟨g,2,none⟩ v2).setCell ⟨g,3,none⟩ v3).setCell ⟨g,4,none⟩ v4):
 (W.cell? ⟨B,0,none⟩=some u0/\W.cell? ⟨B,1,none⟩=some u1/\W.cell? ⟨B,2,none⟩=some u2/\W.cell? ⟨B,3,none⟩=some u3/\W.cell? ⟨B,4,none⟩=some u4)/\(W.cell? ⟨B+1,0,none⟩=some t0/\W.cell? ⟨B+1,1,none⟩=some t1)/\
  (W.cell? ⟨c1,o1,none⟩=some x0/\W.cell? ⟨c2,o2,none⟩=some x1)/\Below wr.heap.size wr W:=by
 obtain⟨⟨h0,h1,h2,h3,h4⟩,⟨h5,h6⟩,⟨h7,h8⟩,k⟩:=h;have hh:∀b o u,b≠g->V.cell? ⟨b,o,none⟩=some u->W.cell? ⟨b,o,none⟩=some u:=fun b o u hb hu=>by
  subst e;rw[World.cell?_of_block (w:=V) (a:=⟨b,o,none⟩) (by simp only;rw[Below.heap_setCell _ _ _ _ hb,Below.heap_setCell _ _ _ _ hb,Below.heap_setCell _ _ _ _ hb,Below.heap_setCell _ _ _ _ hb,Below.heap_setCell _ _ _ _ hb])];exact hu
 refine⟨⟨hh _ _ _ (by omega) h0,hh _ _ _ (by omega) h1,hh _ _ _ (by omega) h2,hh _ _ _ (by omega) h3,hh _ _ _ (by omega) h4⟩,⟨hh _ _ _ (by omega) h5,hh _ _ _ (by omega) h6⟩,⟨hh _ _ _ (by omega) h7,hh _ _ _ (by omega) h8⟩,?_⟩;subst e;exact Ao k hg v0 v1 v2 v3 v4
theorem Ic (D:Dk)(L:Pn)(p q p' q':Pl)(w:World)(hD:IsDk w D p q)(hL:IsPn w L p' q')(hlen:L.targets.length=L.data.length)(hmany:L.targets.length<=1000000):
 CX 53 #[dval D p q,pval L p' q'] w (RetDkN w.heap.size D p q (Pn.lay D L)):=by
 have an:=hid (fun(W:World)(hb:Below w.heap.size w W)=>(hL.below hb:IsPn W L p' q'));have hDW:=hid (fun(W:World)(hb:Below w.heap.size w W)=>(hD.below hb:IsDk W D p q));have ak:=hid (fun g (hg:w.heap.size<=g)=>hD.apart hg);have aa:=hid hlen;clear hD hL hlen;obtain⟨A1,a1⟩:=p;obtain⟨A2,a2⟩:=q;obtain⟨B1,b1⟩:=p';obtain⟨B2,b2⟩:=q';have hB:=Y0 w;have x:=apc5 (Blk.new w 25) D A1 a1 A2 a2;have a6:=Ya hB x;have z:=apc2 (Yd a6 63) L B1 b1 B2 b2;simp only[Ys]at z;have zk:=blk2 z;have a5:=Ya a6 z;obtain⟨ar,au⟩:=Z5 (Yc x a5);have r:=Yd a5 25 #[.string (bs []),.slice none 0 0,.int .i64 0,.bool false,.slice none 0 0];simp only[Ys]at r;have rk:=blk5 r;have hB_4:=Ya a5 r;obtain⟨x_5,av⟩:=Z5 (Yc ar hB_4);obtain⟨aw,ax⟩:=Z2 (Yc z hB_4);go_enter Tryz.func53,Tryz.ntmps53;go_wp2_with fail
 go_loopw [6] (fun u W=>∃i:Nat,i<=L.secs.length/\u=.int .i64 i/\∃X:Dk,Hid (Dk.layIn (L.secs.take i) D=(X,0))/\LayBox5 W w.heap.size 25 D ⟨A1,a1⟩ ⟨A2,a2⟩ X/\Blk W (w.heap.size+1) 63 #[.slice B1 L.targets.length b1,.slice B2 L.data.length b2]/\Below w.heap.size w W) (fun u _=>L.secs.length-(intOf u).toNat)
 case atStart=>exact⟨0,Nat.zero_le _,rfl,D,hid rfl,⟨⟨⟨A1,a1⟩,⟨A2,a2⟩,x_5,hDW.out _ hB_4,fun g _ h2=>by rcases Nat.lt_or_ge g w.heap.size with h|h;(exact h2 h);(exact ak.out g h)⟩,r⟩,aw,hB_4⟩
 case round=>
  obtain⟨i,hi,rfl,X,hX,⟨⟨p1,q1,h1,h2,h3⟩,h4⟩,hz,hb⟩:=hrel;have z1:=blk5 h1;have z2:=blk2 hz;have z4:=blk5 h4;have v4:=h4.fz;have ad:=Ct L aa.out;by_cases hlt:i<L.secs.length
  · obtain⟨m1,m2,hze⟩:=BU L i hlt;have hP:=an.out wr hb;obtain⟨c1,o1,e1,ct⟩:=hP.targets.int m1;obtain⟨c2,o2,e2,cs⟩:=hP.data.str m2;have al:B1=some ⟨c1,o1,none⟩:=e1;have am:B2=some ⟨c2,o2,none⟩:=e2;subst al am;have ct:=ct i m1;have cs:=cs i m2;have hk:=hP.ats _ (List.getElem_mem m1);have hs:=hP.strs _ (List.getElem_mem m2);obtain⟨⟨E,er⟩,hE⟩:∃X',X.write L.targets[i] L.data[i]=X':=⟨_,rfl⟩;have Hn:=hid (show Dk.layIn (L.secs.take (i+1)) D=(E,er) by
     rw[List.take_succ_eq_append_getElem hlt,Dk.layIn_snoc _ _ _ (by rw[hX.out]),hX.out,hze];exact hE)
    have hw:=fun(W:World)(hb:Below wr.heap.size wr W)=>DD X p1 q1 W (h2.below hb) L.targets[i] hk L.data[i] hs
    simp only[hE]at hw;have a8:=hid (fun(h:er≠0)=>show Pn.lay D L=(E,er) by
     have e:L.secs=L.secs.take (i+1)++L.secs.drop (i+1):=(List.take_append_drop _ _).symm;show Dk.layIn L.secs D=_;rw[e,Dk.layIn_stop _ _ _ (by rw[Hn.out];exact h),Hn.out])
    clear hP e1 e2 hE hze hX;have ao:decide (i<L.targets.length)=true:=by simpa using m1
    have H3:=hid h3;clear h3 ad;generalize L.targets[i]=k at*;generalize L.data[i]=s at*;go_wp2_with fail
    have aj:w.heap.size+1+1<wr.heap.size:=h4.lt;have ae:w.heap.size+1<wr.heap.size:=hz.lt;have ac:c1<wr.heap.size/\c2<wr.heap.size:=⟨Bb ct,Bb cs⟩;have a7:=(Y0 wr).drew;have s0:(wr.drew.cell? ⟨w.heap.size,0,none⟩=some (.string (bs X.data))/\wr.drew.cell? ⟨w.heap.size,1,none⟩=some (.slice p1.a X.cache.length p1.c)/\wr.drew.cell? ⟨w.heap.size,2,none⟩=some (.int .i64 X.fuse)/\wr.drew.cell? ⟨w.heap.size,3,none⟩=some (.bool X.off)/\wr.drew.cell? ⟨w.heap.size,4,none⟩=some (.slice q1.a X.bad.length q1.c))/\(wr.drew.cell? ⟨w.heap.size+1,0,none⟩=some (.slice (some ⟨c1,o1,none⟩) L.targets.length b1)/\wr.drew.cell? ⟨w.heap.size+1,1,none⟩=some (.slice (some ⟨c2,o2,none⟩) L.data.length b2))/\(wr.drew.cell? ⟨c1,o1+i,none⟩=some (.int .i64 k)/\wr.drew.cell? ⟨c2,o2+i,none⟩=some (.string (bs s)))/\Below wr.heap.size wr wr.drew:=⟨z1,z2,⟨ct,cs⟩,a7⟩;have s1:(((wr.alloc (.cells #[.string (bs []),.slice none 0 0,.int .i64 0,.bool false,.slice none 0 0] 25)).drew).cell? ⟨w.heap.size,0,none⟩=some (.string (bs X.data))/\((wr.alloc (.cells #[.string (bs []),.slice none 0 0,.int .i64 0,.bool false,.slice none 0 0] 25)).drew).cell? ⟨w.heap.size,1,none⟩=some (.slice p1.a X.cache.length p1.c)/\((wr.alloc (.cells #[.string (bs []),.slice none 0 0,.int .i64 0,.bool false,.slice none 0 0] 25)).drew).cell? ⟨w.heap.size,2,none⟩=some (.int .i64 X.fuse)/\((wr.alloc (.cells #[.string (bs []),.slice none 0 0,.int .i64 0,.bool false,.slice none 0 0] 25)).drew).cell? ⟨w.heap.size,3,none⟩=some (.bool X.off)/\((wr.alloc (.cells #[.string (bs []),.slice none 0 0,.int .i64 0,.bool false,.slice none 0 0] 25)).drew).cell? ⟨w.heap.size,4,none⟩=some (.slice q1.a X.bad.length q1.c))/\(((wr.alloc (.cells #[.string (bs []),.slice none 0 0,.int .i64 0,.bool false,.slice none 0 0] 25)).drew).cell? ⟨w.heap.size+1,0,none⟩=some (.slice (some ⟨c1,o1,none⟩) L.targets.length b1)/\((wr.alloc (.cells #[.string (bs []),.slice none 0 0,.int .i64 0,.bool false,.slice none 0 0] 25)).drew).cell? ⟨w.heap.size+1,1,none⟩=some (.slice (some ⟨c2,o2,none⟩) L.data.length b2))/\(((wr.alloc (.cells #[.string (bs []),.slice none 0 0,.int .i64 0,.bool false,.slice none 0 0] 25)).drew).cell? ⟨c1,o1+i,none⟩=some (.int .i64 k)/\((wr.alloc (.cells #[.string (bs []),.slice none 0 0,.int .i64 0,.bool false,.slice none 0 0] 25)).drew).cell? ⟨c2,o2+i,none⟩=some (.string (bs s)))/\Below wr.heap.size wr ((wr.alloc (.cells #[.string (bs []),.slice none 0 0,.int .i64 0,.bool false,.slice none 0 0] 25)).drew):=Cc s0 ((Below.refl wr.heap.size wr.drew).alloc (Nat.le_refl _) (.cells #[.string (bs []),.slice none 0 0,.int .i64 0,.bool false,.slice none 0 0] 25));have a4:Below wr.heap.size wr ((wr.alloc (.cells #[.string (bs []),.slice none 0 0,.int .i64 0,.bool false,.slice none 0 0] 25)).drew):=a7.alloc (Nat.le_refl _) (.cells #[.string (bs []),.slice none 0 0,.int .i64 0,.bool false,.slice none 0 0] 25);have rn:Blk ((wr.alloc (.cells #[.string (bs []),.slice none 0 0,.int .i64 0,.bool false,.slice none 0 0] 25)).drew) wr.heap.size 25 #[.string (bs []),.slice none 0 0,.int .i64 0,.bool false,.slice none 0 0]:=Blk.new wr.drew 25 #[.string (bs []),.slice none 0 0,.int .i64 0,.bool false,.slice none 0 0];have rl:wr.heap.size<((wr.alloc (.cells #[.string (bs []),.slice none 0 0,.int .i64 0,.bool false,.slice none 0 0] 25)).drew).heap.size:=rn.lt
    go_region_held3 (fun W=>(W.cell? ⟨w.heap.size,0,none⟩=some (.string (bs X.data))/\W.cell? ⟨w.heap.size,1,none⟩=some (.slice p1.a X.cache.length p1.c)/\W.cell? ⟨w.heap.size,2,none⟩=some (.int .i64 X.fuse)/\W.cell? ⟨w.heap.size,3,none⟩=some (.bool X.off)/\W.cell? ⟨w.heap.size,4,none⟩=some (.slice q1.a X.bad.length q1.c))/\(W.cell? ⟨w.heap.size+1,0,none⟩=some (.slice (some ⟨c1,o1,none⟩) L.targets.length b1)/\W.cell? ⟨w.heap.size+1,1,none⟩=some (.slice (some ⟨c2,o2,none⟩) L.data.length b2))/\(W.cell? ⟨c1,o1+i,none⟩=some (.int .i64 k)/\W.cell? ⟨c2,o2+i,none⟩=some (.string (bs s)))/\Below wr.heap.size wr W)
     (with_reducible (first|exact s0|exact Cc s0 hbl|exact s1|exact Cc s1 hbl|exact LL (Cc s0 hbl) _|exact LM (Cc s1 hbl) (Nat.le_refl _) ae ac _ _ _ _ _ rfl))
     (first|(go_at_call 62;refine(hw _ a7).mono ?_;rintro e W1 ⟨⟨p2,q2,rfl,i2,o2'⟩,hbl⟩)|(go_at_call 62;refine(hw _ a4).mono ?_;rintro e W1 ⟨⟨p2,q2,rfl,i2,o2'⟩,hbl⟩;have r1:=rn.below hbl rl;have aq:=blk5 r1;have ap:=r1.frozen))
    · have ab:wr.heap.size<=W1.heap.size:=by first|exact hbl.size|omega
      have ai:=(hbl.alloc hbl.size (.cells #[.string (bs E.data),.slice p2.a E.cache.length p2.c,.int .i64 E.fuse,.bool E.off,.slice q2.a E.bad.length q2.c] 25));have a0:Below wr.heap.size wr (W1.alloc (.cells #[.string (bs E.data),.slice p2.a E.cache.length p2.c,.int .i64 E.fuse,.bool E.off,.slice q2.a E.bad.length q2.c] 25)):=(Y0 wr).drew.trans ai;have a9:=apc5 (Blk.new W1 25) E p2.a p2.c q2.a q2.c;have bd7:=h1.bl a0;have bz7:=hz.bl a0;have br7:=h4.bl a0;have i7:=i2.below (Yz (W:=W1) (.cells #[.string (bs E.data),.slice p2.a E.cache.length p2.c,.int .i64 E.fuse,.bool E.off,.slice q2.a E.bad.length q2.c] 25));have b7:=bt hb a0;clear ai a0 hbl i2 h1 hz h4 hb z1 z2 z4 v4 ct cs hw a7 a4 s0 s1 rn ae ac;generalize W1.alloc (.cells #[.string (bs E.data),.slice p2.a E.cache.length p2.c,.int .i64 E.fuse,.bool E.off,.slice q2.a E.bad.length q2.c] 25)=U at*;generalize W1.heap.size=g7 at*;have kt:=blk5 a9;have fd:=bd7.fz;have kr:=blk5 br7;have fr:=br7.fz;have a3:=hid (fun g (g1:g<=w.heap.size+1+1)(g2:g<w.heap.size->DkOff g D ⟨A1,a1⟩ ⟨A2,a2⟩)=>o2' g (Nat.lt_of_le_of_lt g1 aj) (H3.out g g1 g2));have od:DkOff w.heap.size E p2 q2:=a3.out _ (by omega) (fun h=>absurd h (by omega));have af:DkOff (w.heap.size+1+1) E p2 q2:=a3.out _ (by omega) (fun h=>absurd h (by omega));clear rl;clear ab;by_cases he:er=0
      · subst he;go_wp2_with fail
        go_roundw
        case rel=>exact⟨i+1,by omega,by go_num,E,Hn,⟨⟨p2,q2,ap5 (Ap bd7) E p2.a p2.c q2.a q2.c,ap5 (i7.off5 od) E p2.a p2.c q2.a q2.c,a3.out⟩,ap5 (Au br7 (by omega)) E p2.a p2.c q2.a q2.c⟩,ap5 (Au bz7 (by omega)) E p2.a p2.c q2.a q2.c,ap5 (Ao b7 (Nat.le_refl _)) E p2.a p2.c q2.a q2.c⟩
        case measure=>simp[intOf];omega
      · have Hl:=hid (a8.out he);have n1:(er !=0)=true:=by simpa using he
        clear he a8;go_wp2_with fail
        have yy:=blk5 (ap5 (Ap (ap5 (Au br7 (g:=w.heap.size) (by omega)) E p2.a p2.c q2.a q2.c)) E p2.a p2.c q2.a q2.c);refine bodyPost_ret (v:=.tuple #[dval E p2 q2,.int .i64 er]) (by simp[results,Tryz.results53,go_sem,yy]) rfl ?_;exact⟨⟨p2,q2,by rw[Hl.out],by rw[Hl.out];exact ap5 ((ap5 (i7.off5 od) E p2.a p2.c q2.a q2.c).off5 af) E p2.a p2.c q2.a q2.c,by rw[Hl.out];exact fun g g1 g2=>a3.out g (by omega) (fun _=>g2)⟩,ap5 (Ao (ap5 (Ao b7 (Nat.le_refl _)) E p2.a p2.c q2.a q2.c) (by omega)) E p2.a p2.c q2.a q2.c⟩
    · have ag:=ap5 (Ao (Below.refl wr.heap.size W1) (g:=wr.heap.size) (Nat.le_refl _)) E p2.a p2.c q2.a q2.c;have a0:=((a4.trans (hbl.mono (Nat.le_of_lt rl))).trans ag);have a9:=ap5 (Ap r1) E p2.a p2.c q2.a q2.c;have bd7:=h1.bl a0;have bz7:=hz.bl a0;have br7:=h4.bl a0;have ah:DkOff wr.heap.size E p2 q2:=o2' _ rl (h2.apart (Nat.le_refl _));have i7:=ap5 (i2.off5 ah) E p2.a p2.c q2.a q2.c;have b7:=bt hb a0;replace o2':=fun g (hg:g<wr.heap.size)=>o2' g (Nat.lt_trans hg rl)
      clear a0 hbl i2 h1 hz h4 hb z1 z2 z4 v4 ct cs hw a7 a4 s0 s1 rn ae ac r1 aq ap ag h2 ah;generalize (((((W1.setCell ⟨wr.heap.size,0,none⟩ (.string (bs E.data))).setCell ⟨wr.heap.size,1,none⟩ (.slice p2.a E.cache.length p2.c)).setCell ⟨wr.heap.size,2,none⟩ (.int .i64 E.fuse)).setCell ⟨wr.heap.size,3,none⟩ (.bool E.off)).setCell ⟨wr.heap.size,4,none⟩ (.slice q2.a E.bad.length q2.c))=U at*;obtain⟨g7,hg7⟩:∃g7,wr.heap.size=g7:=⟨_,rfl⟩;rw[hg7]at a9 ⊢;have ab:wr.heap.size<=g7:=Nat.le_of_eq hg7;have kt:=blk5 a9;have fd:=bd7.fz;have kr:=blk5 br7;have fr:=br7.fz;have a3:=hid (fun g (g1:g<=w.heap.size+1+1)(g2:g<w.heap.size->DkOff g D ⟨A1,a1⟩ ⟨A2,a2⟩)=>o2' g (Nat.lt_of_le_of_lt g1 aj) (H3.out g g1 g2));have od:DkOff w.heap.size E p2 q2:=a3.out _ (by omega) (fun h=>absurd h (by omega));have af:DkOff (w.heap.size+1+1) E p2 q2:=a3.out _ (by omega) (fun h=>absurd h (by omega));clear rl;clear ab;by_cases he:er=0
      · subst he;go_wp2_with fail
        go_roundw
        case rel=>exact⟨i+1,by omega,by go_num,E,Hn,⟨⟨p2,q2,ap5 (Ap bd7) E p2.a p2.c q2.a q2.c,ap5 (i7.off5 od) E p2.a p2.c q2.a q2.c,a3.out⟩,ap5 (Au br7 (by omega)) E p2.a p2.c q2.a q2.c⟩,ap5 (Au bz7 (by omega)) E p2.a p2.c q2.a q2.c,ap5 (Ao b7 (Nat.le_refl _)) E p2.a p2.c q2.a q2.c⟩
        case measure=>simp[intOf];omega
      · have Hl:=hid (a8.out he);have n1:(er !=0)=true:=by simpa using he
        clear he a8;go_wp2_with fail
        have yy:=blk5 (ap5 (Ap (ap5 (Au br7 (g:=w.heap.size) (by omega)) E p2.a p2.c q2.a q2.c)) E p2.a p2.c q2.a q2.c);refine bodyPost_ret (v:=.tuple #[dval E p2 q2,.int .i64 er]) (by simp[results,Tryz.results53,go_sem,yy]) rfl ?_;exact⟨⟨p2,q2,by rw[Hl.out],by rw[Hl.out];exact ap5 ((ap5 (i7.off5 od) E p2.a p2.c q2.a q2.c).off5 af) E p2.a p2.c q2.a q2.c,by rw[Hl.out];exact fun g g1 g2=>a3.out g (by omega) (fun _=>g2)⟩,ap5 (Ao (ap5 (Ao b7 (Nat.le_refl _)) E p2.a p2.c q2.a q2.c) (by omega)) E p2.a p2.c q2.a q2.c⟩
  · obtain rfl:i=L.secs.length:=by omega
    have Hl:=hid (show Pn.lay D L=(X,0) by
     have:=hX.out;rw[List.take_length]at this;exact this)
    have ao:decide (L.secs.length<L.targets.length)=false:=by rw[ad];simp
    clear hX ad;go_wp2_with fail
    have z5:=blk5 (ap5 (Ap h4) X p1.a p1.c q1.a q1.c);refine bodyPost_ret (v:=.tuple #[dval X p1 q1,.int .i64 0]) (by simp[results,Tryz.results53,go_sem,z5]) rfl ?_;exact⟨⟨p1,q1,by rw[Hl.out],by rw[Hl.out];exact h2.off5 (h3 _ (Nat.le_refl _) (fun h=>absurd h (by omega))) _ _ _ _ _,by rw[Hl.out];exact fun g g1 g2=>h3 g (by omega) (fun _=>g2)⟩,Ao hb (by omega) _ _ _ _ _⟩
end
end Go.Proofs.YtmiilfnchfdfcaaGreatDoor
