/- By: Txn4, Txn6, Jour3. -/
import Derived.Test.YtmiilfnchfdfcaaGreatDoorByPlanFit
import Derived.Test.YtmiilfnchfdfcaaGreatDoorByLaw15a
set_option maxRecDepth 100000
set_option maxHeartbeats 40000000
set_option linter.unusedVariables false
namespace Go.Proofs.YtmiilfnchfdfcaaGreatDoor
section
open Go.RowKit Go.Shelf
attribute [local go_sem] Ad Ag Ah Ac Aj Ai Oper.semAt_some
abbrev tval (t:Tx)(p q:Pl):Value:=.agg #[.int .u64 t.seq,.slice p.a t.plan.targets.length p.c,.slice q.a t.plan.data.length q.c]
def RetRows (w:World)(te:TypeId)(X:List (List UInt8)×Int)(e:Ending)(w':World):Prop:=
 ∃v,e=.returned (.tuple #[v,.int .i64 X.2])/\w'.ownsRow w.heap.size te 1 v X.1.length (strCells X.1)
structure WrBox (W:World) (n₀ gl gs Vs Bp:Nat) (tl te tm:TypeId) (X:List (List UInt8)) (sm:Nat):Prop where
 ex:∃g cap,Blk W gl tl #[.slice (some ⟨g,0,none⟩) X.length cap]/\W.ownsRow n₀ te 1 (.slice (some ⟨g,0,none⟩) X.length cap) X.length (strCells X)/\(g<Bp\/Vs+5<=g)/\cap<=maxLen
 sum:Blk W gs tm #[.int .u32 ((sm:Nat):Int)]
theorem Fa {s:Nat}(h:s<4294967296):crcMore s []=s:=by
 unfold crcMore;show 4294967295-(4294967295-s)=s;omega
theorem PV (B n₀ gl gs Vs Bp:Nat)(tl te tm:TypeId)(X:List (List UInt8))(sm:Nat):OwnFrom B (fun(_:Unit) W=>WrBox W n₀ gl gs Vs Bp tl te tm X sm):=by
 rintro s Y Z row ⟨⟨g,cap,h1,h2,h3,h4⟩,h5⟩ hy hr;exact⟨⟨g,cap,(Own.from (AA _ _ (fun _:Unit=>_)) _) () Y Z row h1 hy hr,LS h2 hy hr,h3,h4⟩,(Own.from (AA _ _ (fun _:Unit=>_)) _) () Y Z row h5 hy hr⟩
theorem Pw (t:Tx)(p q:Pl)(w:World)(hL:IsPn w t.plan p q)(ht:¬t.Ok):
 Calls Tryz.prog 118 #[tval t p q] w fun e w'=>RetRows w 9 t.write e w'/\Below w.heap.size w w':=by
 have Hw:=hid (show t.write=([],25) by unfold Tx.write;rw[if_neg ht]);have hpm:=hL.pm;unfold maxLen at hpm;have hz:∀W:World,W.ownsRow w.heap.size 9 1 (.slice none 0 0) 0 []:=fun W=>World.ownsRow_nil _ _ _ _
 have x0:=Blk.new w 164 #[.int .u64 t.seq,.slice p.a t.plan.targets.length p.c,.slice q.a t.plan.data.length q.c];have hb:=Yz (W:=w) (.cells #[.int .u64 t.seq,.slice p.a t.plan.targets.length p.c,.slice q.a t.plan.data.length q.c] 164);have k0:_/\_/\_:=⟨x0.cell 0,x0.cell 1,x0.cell 2⟩;by_cases h0:t.plan.targets=[]
 · have hl:t.plan.targets.length=0:=by rw[h0];rfl
   have hl':((t.plan.targets.length:Int)==0)=true:=by simp[hl]
   clear hl h0;go_enter Tryz.func118,Tryz.ntmps118;go_wp2_with fail
   go_ret2
   exact⟨⟨_,by rw[Hw.out];rfl,by rw[Hw.out];exact hz _⟩,hb⟩
 · have hl:=List.length_pos_iff.2 h0;have hl':((t.plan.targets.length:Int)==0)=false:=by rw[beq_eq_false_iff_ne];omega
   have hf:t.plan.fit=false:=Pn.fit_no fun h=>ht ⟨h,h0⟩
   have hfit:=fun(W:World)(hb:Below w.heap.size w W)=>Gl t.plan p q W (hL.below hb)
   rw[hf]at hfit;clear hf h0;go_enter Tryz.func118,Tryz.ntmps118;go_wp2_with fail
   go_at_call 144;refine(hfit _ hb).mono ?_;rintro e w1 ⟨rfl,hb1⟩;go_wp2_with fail
   go_ret2
   exact⟨⟨_,by rw[Hw.out];rfl,by rw[Hw.out];exact hz _⟩,bt hb hb1⟩
theorem G4 (X:List (List UInt8))(s:List UInt8):strCells X++[Value.string (bs s)]=strCells (X++[s]):=by simp[strCells]
theorem Ib {w0 W U W2 W3:World}{n₀ b4 g gg cap cap2 Vs Bp:Nat}{tl te tm:TypeId}{X Y:List (List UInt8)}{s:List UInt8}{sm sm':Nat}(hb:Below n₀ w0 W)(hs:Vs<=W.heap.size)(hVz:Vs+2+3<=W.heap.size)
 (hU:Below W.heap.size W U) (h2:W.ownsRow n₀ te 1 (.slice (some ⟨g,0,none⟩) (X.length+1) cap) (X.length+1) (strCells ([]::X))) (h3:g<Bp\/Vs+5<=g) (gr2:U.grownBy W2 (some g)) (hor:some g=some gg\/gg=U.heap.size) (hr2:W2.ownsRow n₀ te 1 (.slice (some ⟨gg,0,none⟩) (X.length+1+1) cap2) (X.length+1+1) (strCells ([]::X)++[Value.string (bs s)])) (hb3:Below W2.heap.size W2 W3)
 (e1:Blk W3 b4 tl #[.slice (some ⟨g,0,none⟩) (X.length+1) cap]) (e5:Blk W3 (b4+1) tm #[.int .u32 (sm:Int)]) (er:W3.ownsRow n₀ te 1 (.slice (some ⟨gg,0,none⟩) (X.length+1+1) cap2) (X.length+1+1) (strCells ([]::X)++[Value.string (bs s)]))
 (hn:n₀<=b4) (hn2:n₀<=Vs) (hg:n₀<=g) (hbV:b4+1<Bp) (hBpV:Bp<Vs) (htl:tl≠te) (htm:tm≠te) (hY:Y=X++[s]) {Z:World} (hZ:Z=(W3.setCell ⟨b4,0,none⟩ (.slice (some ⟨gg,0,none⟩) (X.length+1+1) cap2)).setCell ⟨b4+1,0,none⟩ (.int .u32 ((sm':Nat):Int))):
 KeepsFrom Vs W Z/\(StaysC (Vs+2) 3 W Z/\KeepB n₀ [Bp] W Z)/\WrBox Z n₀ b4 (b4+1) Vs Bp tl te tm ([]::Y) sm'/\Below n₀ w0 Z/\Vs<=Z.heap.size:=by
 have sU:=hU.size;have s2:=gr2.size;have s3:=hb3.size;have bz2:∀k,k<W.heap.size->k≠g->W2.heap[k]? =W.heap[k]? :=fun k hk hne=>(gr2.block k (by omega) (by simpa using hne)).trans (hU.block k hk)
 have bz:∀k,k<W.heap.size->k≠g->k≠b4->k≠b4+1->Z.heap[k]? =W.heap[k]? :=fun k hk hne h1 h2=>by
  rw[hZ,Below.heap_setCell _ _ _ _ h2,Below.heap_setCell _ _ _ _ h1,hb3.block k (by omega),bz2 k hk hne]
 have n1:b4≠gg:=Cs er e1 htl;have n2:b4+1≠gg:=Cs er e5 htm;have sz:Z.heap.size=W3.heap.size:=by rw[hZ];simp
 have hos:Below n₀ W Z:=by
  have b1:Below n₀ W U:=hU.mono (by omega);have b2:Below n₀ U W2:=⟨gr2.os,gr2.tape,gr2.output,gr2.size,fun k hk=>gr2.block k (by omega) (by simp;omega)⟩;have b3:Below n₀ W2 W3:=hb3.mono (by omega);rw[hZ];exact(((b1.trans b2).trans b3).setCell (p:=⟨b4,0,none⟩) hn _).setCell (p:=⟨b4+1,0,none⟩) (show n₀<=b4+1 by omega) _
 have hgc:∃o:Obj,W2.heap[gg]? =some o/\o.isCells=true:=by
  rcases hr2.2 with ⟨h',_⟩|⟨g',cap',cur,h',_,hg',_⟩
  · cases h'
  · injection h' with h'
    injection h' with h'
    injection h' with h'
    subst h';exact⟨_,hg',rfl⟩
 refine⟨⟨by omega,fun k o hk ho hc=>?_⟩,⟨⟨by omega,fun k h1 h2 hk=>bz k hk (by omega) (by omega) (by omega)⟩,⟨hos,fun k hk=>?_⟩⟩,⟨⟨gg,cap2,?_,?_,?_,?_⟩,?_⟩,hb.trans hos,by omega⟩
 · have hlt:=(Array.getElem?_eq_some_iff.1 ho).1;by_cases hkg:k=g
   · exfalso
     rw[hkg]at ho
     rcases h2.2 with ⟨h',_⟩|⟨g',cap',cur,h',_,hg',_⟩
     · cases h'
     · injection h' with h'
       injection h' with h'
       injection h' with h'
       subst h';rw[hg']at ho;cases ho
       cases hc
   · rw[bz k hlt hkg (by omega) (by omega)];exact ho
 · obtain rfl:k=Bp:=by simpa using hk
   exact bz _ (by omega) (by omega) (by omega) (by omega)
 · rw[hZ,hY,List.length_cons,List.length_append,List.length_singleton];have:=(e1.set 0 (.slice (some ⟨gg,0,none⟩) (X.length+1+1) cap2)).other (a:=⟨b4+1,0,none⟩) (by simp) (.int .u32 ((sm':Nat):Int));simpa using this
 · rw[hZ,hY,List.length_cons,List.length_append,List.length_singleton,<-List.cons_append,<-G4];exact ownsRow_setCell_other (ownsRow_setCell_other er (a:=⟨b4,0,none⟩) (by simpa[Value.ownBlock]using n1.symm) _) (a:=⟨b4+1,0,none⟩) (by simpa[Value.ownBlock]using n2.symm) _
 · rcases hor with h|h
   · injection h with h;subst h;exact h3
   · right;omega
 · rcases er.2 with ⟨h',_⟩|⟨g',cap',cur,h',_,_,_,h1,_⟩
   · cases h'
   · injection h' with _ _ h';subst h';exact h1
 · rw[hZ];have:=(e5.other (a:=⟨b4,0,none⟩) (by simp) (.slice (some ⟨gg,0,none⟩) (X.length+1+1) cap2)).set 0 (.int .u32 ((sm':Nat):Int));simpa using this
def wrAct (t:Tx)(p q:Pl)(b b3 b4 b5:Nat)(s:List UInt8):Act:=
 {tmps:=#[tval t p q,.pointer (some ⟨b,0,none⟩),.slice none 0 0,.int .i64 0,.int .i64 t.plan.targets.length,.string (bs t.head),.pointer (some ⟨b4,0,none⟩),.pointer (some ⟨b4+1,0,none⟩),.string (bs s),
  .pointer (some ⟨b,1,none⟩),.pointer (some ⟨b,1,none⟩),.slice p.a t.plan.targets.length p.c,.int .i64 t.plan.targets.length,.int .i64 t.plan.targets.length,.bool false,.bool false,.pointer (some ⟨b,1,none⟩),
  .agg #[.slice p.a t.plan.targets.length p.c,.slice q.a t.plan.data.length q.c],.bool true,.bool false,.bool false,.pointer (some ⟨b,0,none⟩),.int .u64 t.seq,.string (bs (be 8 t.seq)),.int .i64 t.plan.targets.length,.string (bs (be 2 t.plan.targets.length)),.string (bs t.head),
  .slice (some ⟨b3,0,none⟩) 1 1,.string (bs t.head),.int .u32 ((crcOf t.head:Nat):Int),.pointer (some ⟨b,1,none⟩),.agg #[.slice p.a t.plan.targets.length p.c,.slice q.a t.plan.data.length q.c],.func (.func 176) #[] #[.pointer (some ⟨b5,0,none⟩)],
  .string (bs s),undef,undef,undef,undef,undef,undef,undef,undef,undef,undef,undef,undef,undef,undef,undef,undef,undef,undef,undef,undef],defers:=[]}
theorem Px (t:Tx)(p q:Pl)(w:World)(hL:IsPn w t.plan p q)(hs:t.seq<18446744073709551616)(ht:t.Ok):
 Calls Tryz.prog 118 #[tval t p q] w fun e w'=>RetRows w 9 t.write e w'/\Below w.heap.size w w':=by
 have Hw:=hid (show t.write=(t.rows,0) by unfold Tx.write;rw[if_pos ht]);have hpm:=hL.pm;unfold maxLen at hpm;have hl:=List.length_pos_iff.2 ht.2;have hl24:=ht.1.2.1;have hl':((t.plan.targets.length:Int)==0)=false:=by rw[beq_eq_false_iff_ne];omega
 have hLW:=fun(W:World)(hb:Below w.heap.size w W)=>(hL.below hb:IsPn W t.plan p q)
 have hf:t.plan.fit=true:=Pn.fit_iff.2 ht.1;have hfit:=fun(W:World)(hb:Below w.heap.size w W)=>Gl t.plan p q W (hLW W hb)
 rw[hf]at hfit;clear hf hL;have hb:=Yz (W:=w) (.cells #[.int .u64 t.seq,.slice p.a t.plan.targets.length p.c,.slice q.a t.plan.data.length q.c] 164);have x0:=Blk.new w 164 #[.int .u64 t.seq,.slice p.a t.plan.targets.length p.c,.slice q.a t.plan.data.length q.c];have k0:_/\_/\_:=⟨x0.cell 0,x0.cell 1,x0.cell 2⟩;have hn8:∀W,Calls Tryz.prog 145 #[.int .u64 t.seq,.int .i64 8] W fun e w'=>e=.returned (.string (bs (be 8 t.seq)))/\Below W.heap.size W w':=fun W=>Pu t.seq hs 8 (by omega) (by omega) W
 have hn2:∀W,Calls Tryz.prog 146 #[.int .i64 t.plan.targets.length,.int .i64 2] W fun e w'=>e=.returned (.string (bs (be 2 t.plan.targets.length)))/\Below W.heap.size W w':=fun W=>EC t.plan.targets.length (by omega) 2 (by omega) (by omega) W
 have hhd:be 8 t.seq++be 2 t.plan.targets.length=t.head:=rfl;have hhl:=t.head_length;have hof:=fun W=>Jn t.head (by rw[hhl];decide) W
 refine(callsIn_wide (n:=6)).1 (callsIn_of_wp_marks Tryz.func118 rfl trivial (wpIn_wide.2 ?_) rfl);simp only[Tryz.ntmps118,Nat.reduceAdd,Nat.reduceSub,Yn];go_wp2_with fail
 go_at_call 144;refine(hfit _ hb).mono ?_;rintro e w1 ⟨rfl,hb1⟩;have x1:=x0.below hb1 x0.lt;have b1:=bt hb hb1;have k1:_/\_/\_:=⟨x1.cell 0,x1.cell 1,x1.cell 2⟩;clear k0;go_wp2_with fail
 go_at_call 145;refine(hn8 _).mono ?_;rintro e w2 ⟨rfl,hb2⟩;have x2:=x1.below hb2 x1.lt;have b2:=bt b1 hb2;clear k1;go_wp2_with fail
 go_at_call 146;refine(hn2 _).mono ?_;rintro e w3 ⟨rfl,hb3⟩;have x3:=x2.below hb3 x2.lt;have b3:=bt b2 hb3;have r3:=World.ownsRow_lit (base:=w.heap.size) (e:=9) (size:=1) w3 #[.string (bs [])] 1 b3.size (by unfold maxLen;omega) rfl;have b3':=b3.alloc b3.size (.cells #[.string (bs [])] 9);have x3':=Yc x3 b3';have g3:w3.heap.size<(w3.alloc (.cells #[.string (bs [])] 9)).heap.size:=by simp
 go_wp2_with fail
 generalize w3.alloc (.cells #[.string (bs [])] 9)=V3 at*;go_at_call 147;refine(hof _).mono ?_;rintro e w4 ⟨rfl,hb4⟩;have r4:=r3.kept (row:=none) ⟨hb4.os,hb4.tape,hb4.output,hb4.size,fun k hk _=>hb4.block k hk⟩ (by simp[Value.ownBlock]);have x4:=x3'.below hb4 x3'.lt;have b4:=bt b3' hb4;have bl:=(Blk.new w4 61 #[.slice (some ⟨w3.heap.size,0,none⟩) 1 1]).alloc (.cells #[.int .u32 ((crcOf t.head:Nat):Int)] 93);have bm:=DC w4 (.cells #[.slice (some ⟨w3.heap.size,0,none⟩) 1 1] 61) 93 #[.int .u32 ((crcOf t.head:Nat):Int)];have x5:=(x4.alloc (.cells #[.slice (some ⟨w3.heap.size,0,none⟩) 1 1] 61)).alloc (.cells #[.int .u32 ((crcOf t.head:Nat):Int)] 93);have r5:=(r4.alloc (.cells #[.slice (some ⟨w3.heap.size,0,none⟩) 1 1] 61)).alloc (.cells #[.int .u32 ((crcOf t.head:Nat):Int)] 93);have b5:=(b4.alloc b4.size (.cells #[.slice (some ⟨w3.heap.size,0,none⟩) 1 1] 61)).alloc (Nat.le_trans b4.size (by simp)) (.cells #[.int .u32 ((crcOf t.head:Nat):Int)] 93);have k5:_/\_/\_:=⟨x5.cell 0,x5.cell 1,x5.cell 2⟩;have g4:=hb4.size;have gb4:=b4.size;have g5:w4.heap.size+1<((w4.alloc (.cells #[.slice (some ⟨w3.heap.size,0,none⟩) 1 1] 61)).alloc (.cells #[.int .u32 ((crcOf t.head:Nat):Int)] 93)).heap.size:=bm.lt;clear r3 x3' b3';go_wp2_with fail
 generalize ((w4.alloc (.cells #[.slice (some ⟨w3.heap.size,0,none⟩) 1 1] 61)).alloc (.cells #[.int .u32 ((crcOf t.head:Nat):Int)] 93))=V5 at*;go_at_call 148;refine(callsIn_wide.1 (In 5 t.plan p q _)).mono ?_;rintro e w' ⟨rfl,rfl⟩;have bp:=Blk.new V5 63 #[.slice p.a t.plan.targets.length p.c,.slice q.a t.plan.data.length q.c];have bl6:=bl.alloc (.cells #[.slice p.a t.plan.targets.length p.c,.slice q.a t.plan.data.length q.c] 63);have bm6:=bm.alloc (.cells #[.slice p.a t.plan.targets.length p.c,.slice q.a t.plan.data.length q.c] 63);have r6:=r5.alloc (.cells #[.slice p.a t.plan.targets.length p.c,.slice q.a t.plan.data.length q.c] 63);have b6:=Ya b5 bp;have g6:V5.heap.size<(V5.alloc (.cells #[.slice p.a t.plan.targets.length p.c,.slice q.a t.plan.data.length q.c] 63)).heap.size:=bp.lt;clear bl bm x5 r5 b5 k5;go_wp2_with fail
 generalize V5.alloc (.cells #[.slice p.a t.plan.targets.length p.c,.slice q.a t.plan.data.length q.c] 63)=V at*;obtain⟨R,hR⟩:∃R,t.rest=R:=⟨_,rfl⟩;have hRl:∀s∈R,s.length=64:=by rw[<-hR];exact Tx.rest_64 ht
 have hRn:R.length<=50:=by
  have h1:=Tx.rest_length ht;rw[hR]at h1;have h2:txSize t.plan.targets.length<=50:=by unfold txSize;split<;>omega
  omega
 have n1:1<=6:=by omega
 have gb6:=b6.size;have hc0:crcOf t.head<4294967296:=AW 0 t.head;refine(wpIn_wide (n:=6)).1 ?_;refine Ep rfl n1 (gf:=176) (lb:=#[.pointer (some ⟨V5.heap.size,0,none⟩)]) rfl trivial (enters_of Tryz.func176 (by kernel_rfl) rfl)
  (Io 5 (by omega) t.plan p q hl hl24 (by have:=ht.1.1;omega) (fun x hx=>by obtain⟨i,hi,rfl⟩:=List.getElem_of_mem hx;exact(ht.1.2.2.1 i hi).1) R hR w.heap.size _ V b6.size (fun W hb=>hLW W (b6.trans hb)) bp)
  KeepB.trans (fun W l o o' q1 q2 q3 q4=>KeepB.putObj o' (by omega) (fun g hg=>by
   simp only[List.mem_cons,List.not_mem_nil,or_false]at hg;omega)) (Below.refl _ _) (fun _=>rfl)
  (fun pre W=>WrBox W w.heap.size w4.heap.size (w4.heap.size+1) V.heap.size V5.heap.size 61 9 93 ([]::picked R pre) (crcMore (crcOf t.head) (picked R pre).flatten)/\Below w.heap.size w W/\V.heap.size<=W.heap.size)
  (fun c pre W=>False)
  ?hI ?hIx ?h0
  (fun y a' W=>a'=wrAct t p q w.heap.size w3.heap.size w4.heap.size V5.heap.size R[y.val])
  (fun _ _ _ _ _ _ hs _ _=>hs) ?assign ?body ?done ?stop
 case hI=>
  rintro pre X Y row ⟨h1,h3,h4⟩ hy hr;exact⟨PV _ _ _ _ _ _ _ _ _ _ _ () X Y row h1 hy hr,ownFrom_below (β:=Unit) (Nat.le_refl _) b6.size () X Y row h3 hy hr,Nat.le_trans h4 hy.size⟩
 case hIx=>
  rintro c pre X Y row h0 hy hr;exact h0
 case h0=>exact⟨⟨⟨w3.heap.size,1,bl6,r6,.inl (by omega),by unfold maxLen;omega⟩,by rw[show(picked R []).flatten=[]from rfl,Fa hc0];exact bm6⟩,b6,Nat.le_refl _⟩
 case assign=>
  rintro l pre y W K hI hK
  dsimp only[rowEnc]
  gi_wp2
  exact hK _ _ (KeepsFrom.refl _ _) (StaysC.refl _ _ _) (KeepB.refl _ _ _) hI rfl
 case body=>
  rintro l pre y a' W ⟨⟨⟨g,cap,h1,h2,h3,h4⟩,h5⟩,hb,hs⟩ rfl hpl hVz;obtain⟨s,hse⟩:∃s,R[y.val]=s:=⟨_,rfl⟩;have hs64:s.length=64:=by rw[<-hse];exact hRl _ (List.getElem_mem _)
  have hnx:=hid (show picked R (pre++[y])=picked R pre++[s] by rw[BB,hse]);have hpll:(picked R pre).length=pre.length:=by simp[picked]
  generalize hX:picked R pre=X at*;rw[hse];have hsm:=AW (crcOf t.head) X.flatten;have hsn:=hid (show crcMore (crcMore (crcOf t.head) X.flatten) s=crcMore (crcOf t.head) (X++[s]).flatten by rw[CM hc0];simp);generalize crcMore (crcOf t.head) X.flatten=sm at*;have hmo:=fun W=>Ff sm hsm s (by omega) W
  rw[hsn.out]at hmo;obtain⟨i2,j2,jz1,jz2,jz3⟩:=info_parts Tryz.infoStrP;have ngl:w4.heap.size≠g:=Cs h2 h1 (by decide);have ngs:w4.heap.size+1≠g:=Cs h2 h5 (by decide);have hlen:([]::X:List (List UInt8)).length=X.length+1:=rfl;rw[hlen]at h1 h2;have hb0:Below W.heap.size W W.drew:=(Below.refl _ _).drew;have hd2:=Dc h2 hb0;have hd1:=h1.below hb0 h1.lt;have hd5:=h5.below hb0 h5.lt;have s0:W.drew.cell? ⟨w4.heap.size,0,none⟩=some (.slice (some ⟨g,0,none⟩) (X.length+1) cap)/\W.drew.cell? ⟨w4.heap.size+1,0,none⟩=some (.int .u32 (sm:Int)):=⟨blk1 hd1,blk1 hd5⟩;unfold wrAct
  gi_wp2_with fail
  refine EF mixed (by kernel_rfl) (by rintro⟨a,w',h⟩;exact h) (CE (S:=fun W=>W.cell? ⟨w4.heap.size+1,0,none⟩=some (.int .u32 (sm:Int))) (late:=fun i=>i==8) _ _ _ _ ?_);show wpLate _ _ _ _ _ _ _ _ _ W.drew;generalize hVd:W.drew=V0 at*;simp only[Nat.reduceAdd,Yn];refine Yu 4 (some 38) (.int .u32 (sm:Int)) rfl (fun W hW=>by have h:=hW;go_simp) s0.2 ?_;simp only[Yf];refine Yt 1 35 (.string (bs s)) ?_;simp only[Yf];refine Yt 5 39 (.string (bs s)) ?_;simp only[Yf];have q0:=Blk.new V0 9 #[.string (bs s)];have q1:=hd1.alloc (.cells #[.string (bs s)] 9);have q5:=hd5.alloc (.cells #[.string (bs s)] 9);have qr:=hd2.alloc (.cells #[.string (bs s)] 9);have qb:=Yz (W:=V0) (.cells #[.string (bs s)] 9);have q1c:=blk1 q1;have q5c:=blk1 q5;refine AG (i:=0) (k:=2) (by kernel_rfl) rfl rfl rfl rfl (fun K hK=>?_) (fun K hK=>?_)
  · refine An (v:=.slice (some ⟨g,0,none⟩) (X.length+1) cap) (w':=V0) (by have h:=s0.1;go_simp) ?_;show K (Act.put _ (some 34) _) _;refine hK _ _ (fun _ h=>h) ?_;simp only[Yf];refine Yo 2 (fun K hK=>?_);refine An (v:=.slice (some ⟨V0.heap.size,0,none⟩) 1 1) (w':=V0.alloc (.cells #[.string (bs s)] 9)) (by go_simp) ?_;show K (Act.put _ (some 36) _) _;refine hK _ _ (fun _ _=>q5c) ?_;simp only[Yf];generalize hU:V0.alloc (.cells #[.string (bs s)] 9)=U at*;refine Yo 3 (fun K hK=>?_);refine wp_append_lies _ (.tmp 34) (.tmp 36) 61 rfl w.heap.size 9 i2 (.string ⟨#[]⟩) 1 16 Tryz.underlying61 j2 jz1 jz2 jz3 rfl (by decide) _ (X.length+1) (strCells ([]::X)) rfl qr ⟨V0.heap.size,0,none⟩ 1 1 [.string (bs s)] rfl rfl (World.news_of_block q0) (by simp[Value.oneCell']) (by omega) (by unfold maxLen;omega) (by omega) (by have:=qb.size;have:=hb0.size;omega) _ rfl ?_;intro gg cap2 W2 hr2 gr2 hor hlt;have gr2:U.grownBy W2 (some g):=gr2;have c1:=q1.kept gr2 (by simpa using ngl);have c5:=q5.kept gr2 (by simpa using ngs);have c5c:=blk1 c5;show K (Act.put _ (some 37) _) _;refine hK _ _ (fun _ _=>c5c) ?_;simp only[Yf];refine Yo 6 (fun K hK=>?_);refine oper_enter' (f:=149) (args:=#[.int .u32 (sm:Int),.string (bs s)]) (w':=W2) (by go_simp) ((hmo W2).mono ?_);rintro e W3 ⟨rfl,hb3⟩;have e1:=c1.below hb3 c1.lt;have e5:=c5.below hb3 c5.lt;have er:=Dc hr2 hb3;have e1c:=blk1 e1;have e5c:=blk1 e5;have e1f:=e1.fz;have e5f:=e5.fz;refine⟨_,rfl,?_⟩;show K (Act.put _ (some 40) _) _;refine hK _ _ (fun _ _=>e5c) ?_;simp only[Yf];have f1:=e1.set 0 (Value.slice (some ⟨gg,0,none⟩) (X.length+1+1) cap2);have f5:=e5.other (a:=⟨w4.heap.size,0,none⟩) (by simp) (Value.slice (some ⟨gg,0,none⟩) (X.length+1+1) cap2);have f5c:=blk1 f5;refine Yo 7 (fun K hK=>?_);refine Aw (w':=W3.setCell ⟨w4.heap.size,0,none⟩ (Value.slice (some ⟨gg,0,none⟩) (X.length+1+1) cap2)) (by go_simp) ?_;show K (Act.put _ none _) _;refine hK _ _ (fun _ _=>f5c) ?_
    try simp only[Yf]
    refine Yo 8 (fun K hK=>?_);refine Aw (w':=(W3.setCell ⟨w4.heap.size,0,none⟩ (Value.slice (some ⟨gg,0,none⟩) (X.length+1+1) cap2)).setCell ⟨w4.heap.size+1,0,none⟩ (.int .u32 ((crcMore (crcOf t.head) (X++[s]).flatten:Nat):Int))) (by go_simp) ?_;show K (Act.put _ none _) _;refine hK _ _ (fun h=>by cases h) ?_
    try simp only[Yf]
    refine Ar (by kernel_rfl) ?_ _;exact Ib hb hs hVz (bt hb0 qb) h2 h3 gr2 hor hr2 hb3 e1 e5 er (by omega) (by omega) (h2.lt g rfl).1 (by omega) (by omega) (by decide) (by decide) hnx.out (by rw[hnx.out])
  · refine An (v:=.slice (some ⟨V0.heap.size,0,none⟩) 1 1) (w':=V0.alloc (.cells #[.string (bs s)] 9)) (by go_simp) ?_;show K (Act.put _ (some 36) _) _;refine hK _ _ (fun _ _=>q5c) ?_;simp only[Yf];refine Yo 0 (fun K hK=>?_);refine An (v:=.slice (some ⟨g,0,none⟩) (X.length+1) cap) (w':=V0.alloc (.cells #[.string (bs s)] 9)) (by go_simp) ?_;show K (Act.put _ (some 34) _) _;refine hK _ _ (fun _ h=>h) ?_;simp only[Yf];generalize hU:V0.alloc (.cells #[.string (bs s)] 9)=U at*;refine Yo 3 (fun K hK=>?_);refine wp_append_lies _ (.tmp 34) (.tmp 36) 61 rfl w.heap.size 9 i2 (.string ⟨#[]⟩) 1 16 Tryz.underlying61 j2 jz1 jz2 jz3 rfl (by decide) _ (X.length+1) (strCells ([]::X)) rfl qr ⟨V0.heap.size,0,none⟩ 1 1 [.string (bs s)] rfl rfl (World.news_of_block q0) (by simp[Value.oneCell']) (by omega) (by unfold maxLen;omega) (by omega) (by have:=qb.size;have:=hb0.size;omega) _ rfl ?_;intro gg cap2 W2 hr2 gr2 hor hlt;have gr2:U.grownBy W2 (some g):=gr2;have c1:=q1.kept gr2 (by simpa using ngl);have c5:=q5.kept gr2 (by simpa using ngs);have c5c:=blk1 c5;show K (Act.put _ (some 37) _) _;refine hK _ _ (fun _ _=>c5c) ?_;simp only[Yf];refine Yo 6 (fun K hK=>?_);refine oper_enter' (f:=149) (args:=#[.int .u32 (sm:Int),.string (bs s)]) (w':=W2) (by go_simp) ((hmo W2).mono ?_);rintro e W3 ⟨rfl,hb3⟩;have e1:=c1.below hb3 c1.lt;have e5:=c5.below hb3 c5.lt;have er:=Dc hr2 hb3;have e1c:=blk1 e1;have e5c:=blk1 e5;have e1f:=e1.fz;have e5f:=e5.fz;refine⟨_,rfl,?_⟩;show K (Act.put _ (some 40) _) _;refine hK _ _ (fun _ _=>e5c) ?_;simp only[Yf];have f1:=e1.set 0 (Value.slice (some ⟨gg,0,none⟩) (X.length+1+1) cap2);have f5:=e5.other (a:=⟨w4.heap.size,0,none⟩) (by simp) (Value.slice (some ⟨gg,0,none⟩) (X.length+1+1) cap2);have f5c:=blk1 f5;refine Yo 7 (fun K hK=>?_);refine Aw (w':=W3.setCell ⟨w4.heap.size,0,none⟩ (Value.slice (some ⟨gg,0,none⟩) (X.length+1+1) cap2)) (by go_simp) ?_;show K (Act.put _ none _) _;refine hK _ _ (fun _ _=>f5c) ?_
    try simp only[Yf]
    refine Yo 8 (fun K hK=>?_);refine Aw (w':=(W3.setCell ⟨w4.heap.size,0,none⟩ (Value.slice (some ⟨gg,0,none⟩) (X.length+1+1) cap2)).setCell ⟨w4.heap.size+1,0,none⟩ (.int .u32 ((crcMore (crcOf t.head) (X++[s]).flatten:Nat):Int))) (by go_simp) ?_;show K (Act.put _ none _) _;refine hK _ _ (fun h=>by cases h) ?_
    try simp only[Yf]
    refine Ar (by kernel_rfl) ?_ _;exact Ib hb hs hVz (bt hb0 qb) h2 h3 gr2 hor hr2 hb3 e1 e5 er (by omega) (by omega) (h2.lt g rfl).1 (by omega) (by omega) (by decide) (by decide) hnx.out (by rw[hnx.out])
 case done=>
  rintro Dd ys W hDd hS ⟨⟨⟨g,cap,h1,h2,h3,h4⟩,h5⟩,hb,hs⟩ hK;rw[hS]at h1 h2 h5;have hsum:crcMore (crcOf t.head) R.flatten=crcOf (t.head++R.flatten):=CM (by omega) _ _;rw[hsum]at h5;have hcl:crcOf (t.head++R.flatten)<4294967296:=AW _ _;have Hfin:=hid (show t.write=((Au (magicJ++t.head++be 2 (65535-t.plan.targets.length)++be 4 (crcOf (t.head++R.flatten))))::R,0) by rw[Hw.out,Tx.rows,Tx.top,hR,headRow]);generalize crcOf (t.head++R.flatten)=cs at*;have hsub:(65535:Int)-(t.plan.targets.length:Int)=((65535-t.plan.targets.length:Nat):Int):=by omega
  have X1:=fun e:Ext W=>e.cell (blk1 h1)
  have X5:=fun e:Ext W=>e.cell (blk1 h5)
  have D1:∀e:Ext W,Calls Tryz.prog 146 #[.int .i64 ((65535-t.plan.targets.length:Nat):Int),.int .i64 2] e.world fun x w'=>x=.returned (.string (bs (be 2 (65535-t.plan.targets.length))))/\Below e.world.heap.size e.world w':=fun e=>EC (65535-t.plan.targets.length) (by omega) 2 (by omega) (by omega) e.world
  have D2:=fun e:Ext W=>Jm cs hcl e.world
  have D3:=fun(e:Ext W)(z:List UInt8)(hz:z.length<=64)=>HX z hz e.world
  have lb2:=Aq 2 (65535-t.plan.targets.length);have lb4:=Aq 4 cs;have w65:=i64w (x:=((65535-t.plan.targets.length:Nat):Int)) ⟨by omega,by omega⟩;have hgl:g<W.heap.size:=(h2.lt g rfl).2;have hdne:Dd≠g:=by
   rintro rfl
   rcases h2.2 with ⟨h',_⟩|⟨g',cap',cur,h',_,hg',_⟩
   · cases h'
   · injection h' with h'
     injection h' with h'
     injection h' with h'
     subst h';rw[hg']at hK;cases hK
  have ngl:w4.heap.size≠g:=Cs h2 h1 (by decide);have hDl:=(Array.getElem?_eq_some_iff.1 hK).1;clear hS h5 x4 b4 hb4 hof hn2 hn8;go_wp2_with fail
  refine PS 11 mixed (by kernel_rfl) ?_;simp only[List.take_succ_cons,List.take_zero,List.drop_succ_cons,List.drop_zero]
  repeat (go_big_quiet_step ((first|(go_at_call 146;with_reducible exact Al (D1 _))|(go_at_call 151;with_reducible exact Al (D2 _))|(go_at_call 150;exact Al (D3 _ _ (by simp[hhl,lb2,lb4]))))))
  refine wpQuiet_nil ?_;rintro W2 ⟨pq_,hpq_⟩;have hb2:=pq_.below;rw[<-hpq_]at hb2;clear hpq_ pq_;have r2:=Dc h2 hb2;have f1:=h1.below hb2 h1.lt;have f1c:=blk1 f1;have rc:=r2.cellAt 0 (by simp);have rf:=r2.frozenAt 0;simp only[strCells,List.map_cons,List.getElem?_cons_zero]at rc;go_wp2_with fail
  obtain⟨st1,st2⟩:=r2.stored 0 (.string (bs (Au (67::79::70::74::(t.head++(be 2 (65535-t.plan.targets.length)++be 4 cs))))));have hK2:(W2.setCell ⟨g,0,none⟩ (.string (bs (Au (67::79::70::74::(t.head++(be 2 (65535-t.plan.targets.length)++be 4 cs))))))).heap[Dd]? =some (.deferred (some [])):=
   (Below.heap_setCell _ _ _ _ hdne).trans ((hb2.block Dd hDl).trans hK)
  refine⟨by simp,.inl ⟨_,_,rfl,run_takeDeferred hK2,?_⟩⟩;refine⟨.tuple #[.slice (some ⟨g,0,none⟩) (R.length+1) cap,.int .i64 0],by simp[results,Tryz.results118,go_sem],⟨_,by rw[Hfin.out],?_⟩,?_⟩
  · rw[Hfin.out];have h:=ownsRow_putObj st1 (.deferred none) hK2 rfl;have e:(strCells ([]::R)).set 0 (.string (bs (Au (67::79::70::74::(t.head++(be 2 (65535-t.plan.targets.length)++be 4 cs))))))=strCells (Au (magicJ++t.head++be 2 (65535-t.plan.targets.length)++be 4 cs)::R):=by
     simp[strCells,magicJ]
    rw[e]at h;exact h
  · exact(((hb.trans (hb2.mono hb.size)).setCell (p:=⟨g,0,none⟩) (h2.lt g rfl).1 _)).trans (belowK_b (w:=w) (Nat.le_refl _) _ Dd _ _ (by omega) hK2 rfl rfl)
 case stop=>
  rintro Dd c pre V hDd hpre hf;exact hf.elim
end
section
open Go.RowKit Go.Shelf
attribute [local go_sem] Ad Ag Ah Ac Aj Ai
theorem Pv (t:Tx)(p q:Pl)(w:World)(hL:IsPn w t.plan p q)(hs:t.seq<18446744073709551616):
 Calls Tryz.prog 118 #[tval t p q] w fun e w'=>RetRows w 9 t.write e w'/\Below w.heap.size w w':=by
 by_cases h:t.Ok
 · exact Px t p q w hL hs h
 · exact Pw t p q w hL h
def RetTx (X:Tx×Int)(e:Ending)(w:World):Prop:=∃p q,e=.returned (.tuple #[tval X.1 p q,.int .i64 X.2])/\IsPn w X.1.plan p q
def Bh (B:Nat)(L:Pn)(p q:Pl)(w:World):Prop:=
 w.ownsRow B 3 1 (.slice p.a L.targets.length p.c) L.targets.length (intCells L.targets)/\w.ownsRow B 9 1 (.slice q.a L.data.length q.c) L.data.length (strCells L.data)
def RetTxN (B:Nat)(X:Tx×Int)(e:Ending)(w:World):Prop:=∃p q,e=.returned (.tuple #[tval X.1 p q,.int .i64 X.2])/\IsPn w X.1.plan p q/\Bh B X.1.plan p q w
theorem RetTxN.ret {B:Nat}{X:Tx×Int}{e:Ending}{w:World}(h:RetTxN B X e w):RetTx X e w:=by
 obtain⟨p,q,he,hi,_⟩:=h;exact⟨p,q,he,hi⟩
theorem A0 {w w':World}{base:Nat}{e:TypeId}{size n:Nat}{v:Value}{xs:List Value}(h:w.ownsRow base e size v n xs)(hb:Below w.heap.size w w'):w'.ownsRow base e size v n xs:=
 h.kept (row:=none) ⟨hb.os,hb.tape,hb.output,hb.size,fun k hk _=>hb.block k hk⟩ (by cases hv:v.ownBlock with|none=>exact .inl rfl|some x=>exact .inr (by simp))
theorem Bh.below {B:Nat}{L:Pn}{p q:Pl}{w w':World}(h:Bh B L p q w)(hb:Below w.heap.size w w'):Bh B L p q w':=⟨A0 h.1 hb,A0 h.2 hb⟩
theorem Bh.off {B:Nat}{L:Pn}{p q:Pl}{w:World}(h:Bh B L p q w){g:Nat}(hg:g<B):PnOff g L p q:=⟨AX h.1 hg,AX h.2 hg⟩
theorem Bh.set {B:Nat}{L:Pn}{p q:Pl}{w:World}(h:Bh B L p q w){a:Addr}(ha:a.block<B)(v:Value):Bh B L p q (w.setCell a v):=
 ⟨ownsRow_setCell_other h.1 (a:=a) (fun e=>by have:=(h.1.lt _ e).1;omega) v,ownsRow_setCell_other h.2 (a:=a) (fun e=>by have:=(h.2.lt _ e).1;omega) v⟩
def RetJr (B:Nat)(D:Dk)(p q:Pl)(X:Dk×Jr×Int)(e:Ending)(w:World):Prop:=
 ∃p' q',e=.returned (.tuple #[dval X.1 p' q',jval X.2.1,.int .i64 X.2.2])/\IsDk w X.1 p' q'/\∀g,g<B->DkOff g D p q->DkOff g X.1 p' q'
theorem IY (D:Dk)(k:Int)(l:List (List UInt8))(L:Pn)(G1 G2 G:Nat):runAll [.flush,.rows G1 G2 k l,.flush,.laid G L] D=comSteps D k l L:=by
 unfold comSteps;rw[runAll,Stp.run];by_cases h1:D.flush.2=0
 · rw[if_neg (by rw[h1];simp),Dk.next_zero h1,runAll,Stp.run];by_cases h2:(Dk.layIn (rowsFrom k l) D.flush.1).2=0
   · rw[if_neg (by rw[h2];simp),Dk.next_zero h2,runAll,Stp.run];by_cases h3:(Dk.layIn (rowsFrom k l) D.flush.1).1.flush.2=0
     · rw[if_neg (by rw[h3];simp),Dk.next_zero h3,runAll,Stp.run]
       split
       · rfl
       · rename_i h4
         have h4:(Pn.lay (Dk.layIn (rowsFrom k l) D.flush.1).1.flush.1 L).2=0:=by simpa using h4
         exact Prod.ext rfl h4.symm
     · rw[if_pos h3,Dk.next_err h3]
   · rw[if_pos h2,Dk.next_err h2,Dk.next_err h2]
 · rw[if_pos h1,Dk.next_err h1,Dk.next_err h1,Dk.next_err h1]
theorem Br (w:World)(a b c d e:Obj):Below w.heap.size w ((((((w.alloc a).alloc b).alloc c).alloc d).alloc e).drew):=
 (((((Yz (W:=w) a).alloc (by simp) b).alloc (by simp;omega) c).alloc (by simp;omega) d).alloc (by simp;omega) e).drew
theorem K6 (k:Int)(A:Option Addr)(n c:Nat)(w:World):Calls Tryz.prog 122 #[.int .i64 k,.slice A n c] w fun e w'=>e=.returned (.func (.func 153) #[] #[.pointer (some ⟨w.heap.size+1,0,none⟩),.pointer (some ⟨w.heap.size,0,none⟩)])/\w'=(w.alloc (.cells #[.int .i64 k] 3)).alloc (.cells #[.slice A n c] 61):=by
 go_enter Tryz.func122,Tryz.ntmps122;go_wp2_with fail
 go_ret
 exact⟨rfl,rfl⟩
theorem KV (A B:Option Addr)(n m c d:Nat)(w:World):Calls Tryz.prog 123 #[.agg #[.slice A n c,.slice B m d]] w fun e w'=>e=.returned (.func (.func 155) #[] #[.pointer (some ⟨w.heap.size,0,none⟩)])/\w'=w.alloc (.cells #[.slice A n c,.slice B m d] 63):=by
 go_enter Tryz.func123,Tryz.ntmps123;go_wp2_with fail
 go_ret
 exact⟨rfl,rfl⟩
theorem KT (D:Dk)(j:Jr)(L:Pn)(p q p' q':Pl)(w:World)(hD:IsDk w D p q)(h0:L.targets=[]):
 Calls Tryz.prog 78 #[dval D p q,jval j,pval L p' q'] w fun e w'=>RetJr w.heap.size D p q (jrCommit D j L) e w'/\Below w.heap.size w w':=by
 have Hw:=hid (show jrCommit D j L=(D,j,0) by unfold jrCommit;rw[if_pos h0]);have hl':L.targets.length=0:=by rw[h0];rfl
 have hap:=hD.apart (Nat.le_refl _);have HD:=hid (fun(W:World)(hb:Below w.heap.size w W)=>(hD.below hb:IsDk W D p q));clear hD h0;obtain⟨A1,a1⟩:=p;obtain⟨A2,a2⟩:=q;obtain⟨B1,b1⟩:=p';obtain⟨B2,b2⟩:=q';obtain⟨sj,pj⟩:=j;have hB:=Below.refl w.heap.size w;have x:=Blk.new w 25 #[.string (bs D.data),.slice A1 D.cache.length a1,.int .i64 D.fuse,.bool D.off,.slice A2 D.bad.length a2];have hB_1:=Ya hB x;have y:=Yd hB_1 30 #[.int .u64 sj,.int .i64 pj];simp only[Ys]at y;have yk:=blk2 y;have hB_2:=Ya hB_1 y;have x_3:=Yc x hB_2;have xk_3:=blk5 x_3;go_enter Tryz.func78,Tryz.ntmps78;go_wp2_with fail
 go_region
 go_wp2_with fail
 refine bodyPost_ret (v:=.tuple #[dval D ⟨A1,a1⟩ ⟨A2,a2⟩,jval ⟨sj,pj⟩,.int .i64 0]) (by simp[results,Tryz.results78,go_sem]) rfl ?_;refine⟨⟨_,_,by rw[Hw.out],?_,?_⟩,Br _ _ _ _ _ _⟩
 · rw[Hw.out];exact HD.out _ (Br _ _ _ _ _ _)
 · rw[Hw.out];exact fun _ _ h=>h
theorem KR (D:Dk)(j:Jr)(L:Pn)(p q p' q':Pl)(w:World)(hD:IsDk w D p q)(h0:L.targets≠[])(hl:L.targets.length<=24)(h1:4611686018427387904<=j.seq)(h2:j.seq<18446744073709551616):
 Calls Tryz.prog 78 #[dval D p q,jval j,pval L p' q'] w fun e w'=>RetJr w.heap.size D p q (jrCommit D j L) e w'/\Below w.heap.size w w':=by
 have Hw:=hid (show jrCommit D j L=(D,j,10) by unfold jrCommit;rw[if_neg h0,if_pos h1]);have hl1:=List.length_pos_iff.2 h0;have hl':((L.targets.length:Int)==0)=false:=by rw[beq_eq_false_iff_ne];omega
 have HD:=hid (fun(W:World)(hb:Below w.heap.size w W)=>(hD.below hb:IsDk W D p q));have g1:(4611686018427387904:Int)<=(j.seq:Int):=by omega
 clear hD h0;obtain⟨A1,a1⟩:=p;obtain⟨A2,a2⟩:=q;obtain⟨B1,b1⟩:=p';obtain⟨B2,b2⟩:=q';obtain⟨sj,pj⟩:=j;simp only at h1 h2 g1;have hB:=Below.refl w.heap.size w;have x:=Blk.new w 25 #[.string (bs D.data),.slice A1 D.cache.length a1,.int .i64 D.fuse,.bool D.off,.slice A2 D.bad.length a2];have hB_1:=Ya hB x;have y:=Yd hB_1 30 #[.int .u64 sj,.int .i64 pj];simp only[Ys]at y;have hB_2:=Ya hB_1 y;have x_3:=Yc x hB_2;have z:=Yd hB_2 63 #[.slice B1 L.targets.length b1,.slice B2 L.data.length b2];simp only[Ys]at z;have hB_4:=Ya hB_2 z;have x_5:=Yc x_3 hB_4;have y_6:=Yc y hB_4;have yk_6:=blk2 y_6;have r:=Yd hB_4 25 #[.string (bs []),.slice none 0 0,.int .i64 0,.bool false,.slice none 0 0];simp only[Ys]at r;have hB_7:=Ya hB_4 r;have x_8:=Yc x_5 hB_7;have y_9:=Yc y_6 hB_7;have z_10:=Yc z hB_7;have s:=Yd hB_7 30 #[.int .u64 0,.int .i64 0];simp only[Ys]at s;have hB_11:=Ya hB_7 s;have x_12:=Yc x_8 hB_11;have xk_12:=blk5 x_12;have y_13:=Yc y_9 hB_11;have yk_13:=blk2 y_13;have z_14:=Yc z_10 hB_11;have zk_14:=blk2 z_14;have r_15:=Yc r hB_11;have rk_15:=blk5 r_15;have rkf_15:=r_15.fz;go_enter Tryz.func78,Tryz.ntmps78;go_wp2_with fail
 go_region
 go_wp2_with fail
 refine bodyPost_ret (v:=.tuple #[dval D ⟨A1,a1⟩ ⟨A2,a2⟩,jval ⟨sj,pj⟩,.int .i64 10]) (by simp[results,Tryz.results78,go_sem]) rfl ?_;refine⟨⟨_,_,by rw[Hw.out],?_,?_⟩,Br _ _ _ _ _ _⟩
 · rw[Hw.out];exact HD.out _ (Br _ _ _ _ _ _)
 · rw[Hw.out];exact fun _ _ h=>h
structure StepsAt (V W:World) (tk tl tp tf:TypeId) (k:Int) (C:Option Addr) (n d:Nat) (P:Array Value) (F:List Value):Prop where
 below:Below V.heap.size V W
 k:Blk W V.heap.size tk #[.int .i64 k]
 l:Blk W (V.heap.size+1) tl #[.slice C n d]
 p:Blk W (V.heap.size+1+1) tp P
 f:Blk W (V.heap.size+1+1+1) tf F.toArray
theorem Ot (V:World)(tk tl tp tf:TypeId)(k:Int)(C:Option Addr)(n d:Nat)(P:Array Value)(F:List Value):
 StepsAt V ((((V.drew.alloc (.cells #[.int .i64 k] tk)).alloc (.cells #[.slice C n d] tl)).alloc (.cells P tp)).alloc (.cells F.toArray tf)) tk tl tp tf k C n d P F:=by
 have s1:=Blk.new V.drew tk #[.int .i64 k];have s2:=Blk.new (V.drew.alloc (.cells #[.int .i64 k] tk)) tl #[.slice C n d];have s3:=Blk.new ((V.drew.alloc (.cells #[.int .i64 k] tk)).alloc (.cells #[.slice C n d] tl)) tp P;have s4:=Blk.new (((V.drew.alloc (.cells #[.int .i64 k] tk)).alloc (.cells #[.slice C n d] tl)).alloc (.cells P tp)) tf F.toArray;simp only[Ys]at s2 s3 s4;exact⟨(((((Below.refl V.heap.size V).drew).alloc (Nat.le_refl _) _).alloc (by simp) _).alloc (by simp;omega) _).alloc (by simp;omega) _,((s1.alloc _).alloc _).alloc _,(s2.alloc _).alloc _,s3.alloc _,s4⟩
theorem Ip {w W U:World}{B g:Nat}(h:Below B w W)(hg:W.grownBy U (some g))(hB:B<=g)(hl:B<=W.heap.size):Below B w U:=
 ⟨hg.os.trans h.os,hg.tape.trans h.tape,hg.output.trans h.output,Nat.le_trans h.size hg.size,fun k hk=>(hg.block k (Nat.lt_of_lt_of_le hk hl) (by intro e;injection e with e;omega)).trans (h.block k hk)⟩
theorem FP {j:Jr}{L:Pn}(hL:L.Fit)(h0:L.targets≠[]):(⟨j.seq,L⟩:Tx).write=(jrRows j L,0)/\(jrRows j L).length<=27/\(∀s∈jrRows j L,s.length=64)/\0<(jrRows j L).length:=by
 have hok:(⟨j.seq,L⟩:Tx).Ok:=⟨hL,h0⟩;have hw:(⟨j.seq,L⟩:Tx).write=((⟨j.seq,L⟩:Tx).rows,0):=by unfold Tx.write;rw[if_pos hok]
 have e:jrRows j L=(⟨j.seq,L⟩:Tx).rows:=by unfold jrRows;rw[hw]
 refine⟨by rw[e];exact hw,by have:=Dx (⟨j.seq,L⟩:Tx);rw[hw]at this;rw[e];exact this,by rw[e];exact Tx.rows_64 hok,by rw[e];simp[Tx.rows]⟩
theorem KQ (D:Dk)(j:Jr)(L:Pn)(p q p' q':Pl)(w:World)(hD:IsDk w D p q)(hL:IsPn w L p' q')(hf:D.fit=true)(hfl:L.Fit)(h0:L.targets≠[])(h1:j.seq<4611686018427387904)(h2: -9223372036854775808<=j.pos/\j.pos<=9223372036854775807):
 Calls Tryz.prog 78 #[dval D p q,jval j,pval L p' q'] w fun e w'=>RetJr w.heap.size D p q (jrCommit D j L) e w'/\Below w.heap.size w w':=by
 obtain⟨r1,r2,r3,r4⟩:=FP (j:=j) hfl h0;have c1:=fun(W:World)(hb:Below w.heap.size w W)=>Pv ⟨j.seq,L⟩ p' q' W (hL.below hb) (by simp only;omega)
 rw[r1]at c1;have hat:=CV (pos:=j.pos) (size:=((jrRows j L).length:Int)) (by omega) (by omega);have c2:=fun(W:World)=>K5 j.pos ((jrRows j L).length:Int) h2 ⟨by omega,by omega⟩ W
 have Hw:=hid (show jrCommit D j L=if(comSteps D (6+jrAt j L) (jrRows j L) L).2≠0 then((comSteps D (6+jrAt j L) (jrRows j L) L).1,j,(comSteps D (6+jrAt j L) (jrRows j L) L).2)
  else((comSteps D (6+jrAt j L) (jrRows j L) L).1,⟨j.seq+1,jrAt j L+(jrRows j L).length⟩,0) by
  unfold jrCommit;rw[if_neg h0,if_neg (by omega)])
 have e1:jrAt j L=jrPlace j.pos ((jrRows j L).length:Int):=rfl;rw[e1]at Hw;clear e1 r1;generalize jrRows j L=R at*;generalize jrPlace j.pos (R.length:Int)=at_ at*;have hl1:=List.length_pos_iff.2 h0;have hl24:=hfl.2.1;have hld:=hfl.1;have hl':((L.targets.length:Int)==0)=false:=by rw[beq_eq_false_iff_ne];omega
 have HD:=hid (fun(W:World)(hb:Below w.heap.size w W)=>(hD.below hb:IsDk W D p q));have Hap:=hid (fun g (hg:w.heap.size<=g)=>hD.apart hg);have HL:=hid (fun(W:World)(hb:Below w.heap.size w W)=>(hL.below hb:IsPn W L p' q'));have g1:¬(4611686018427387904:Int)<=(j.seq:Int):=by omega
 have w6:=i64w (x:=6+at_) ⟨by omega,by omega⟩;have w7:=i64w (x:=at_+(R.length:Int)) ⟨by omega,by omega⟩;have w8:=u64w (x:=(j.seq:Int)+1) ⟨by omega,by omega⟩;have Hld:=hid hld;clear hD hL h0 hfl hld;obtain⟨A1,a1⟩:=p;obtain⟨A2,a2⟩:=q;obtain⟨B1,b1⟩:=p';obtain⟨B2,b2⟩:=q';obtain⟨sj,pj⟩:=j;simp only at h1 h2 g1 c1 c2 w8;have hB:=Below.refl w.heap.size w;have x:=Blk.new w 25 #[.string (bs D.data),.slice A1 D.cache.length a1,.int .i64 D.fuse,.bool D.off,.slice A2 D.bad.length a2];have xk:=blk5 x;have hB_1:=Ya hB x;have y:=Yd hB_1 30 #[.int .u64 sj,.int .i64 pj];simp only[Ys]at y;have yk:=blk2 y;have hB_2:=Ya hB_1 y;have x_3:=Yc x hB_2;have z:=Yd hB_2 63 #[.slice B1 L.targets.length b1,.slice B2 L.data.length b2];simp only[Ys]at z;have zk:=blk2 z;have hB_4:=Ya hB_2 z;have x_5:=Yc x_3 hB_4;have y_6:=Yc y hB_4;have r:=Yd hB_4 25 #[.string (bs []),.slice none 0 0,.int .i64 0,.bool false,.slice none 0 0];simp only[Ys]at r;have hB_7:=Ya hB_4 r;have x_8:=Yc x_5 hB_7;have y_9:=Yc y_6 hB_7;have z_10:=Yc z hB_7;have s:=Yd hB_7 30 #[.int .u64 0,.int .i64 0];simp only[Ys]at s;have hB_11:=Ya hB_7 s;have x_12:=Yc x_8 hB_11;have y_13:=Yc y_9 hB_11;have yk_13:=blk2 y_13;have z_14:=Yc z_10 hB_11;have zk_14:=blk2 z_14;have r_15:=Yc r hB_11;go_enter Tryz.func78,Tryz.ntmps78;go_wp2_with fail
 go_at_call 118;refine((c1 _ hB_11)).mono ?_;rintro e w1 ⟨⟨v1,rfl,own1⟩,hb1⟩;replace hB:=bt hB_11 hb1;replace x:=x_12.below hb1 x_12.lt;replace xk:=blk5 x;replace y:=y_13.below hb1 y_13.lt;replace yk:=blk2 y;replace z:=z_14.below hb1 z_14.lt;replace zk:=blk2 z;replace r:=r_15.below hb1 r_15.lt;replace s:=s.below hb1 s.lt;clear hB_1 hB_2 x_3 hB_4 x_5 y_6 hB_7 x_8 y_9 z_10 hB_11 x_12 yk_13 y_13 zk_14 z_14 r_15;simp only at own1;obtain⟨C1,d1,rfl,u1,u2,u3⟩:=Az own1;have cc1:=Cells.of_own own1;have oc1:=fun g (hg:w1.heap.size<=g)=>BZ cc1 (Nat.le_refl _) hg
 go_wp2_with fail
 go_at_call 119;refine((BR _)).mono ?_;rintro e w2 ⟨rfl,hb2⟩;replace hB:=bt hB hb2;replace x:=x.below hb2 x.lt;replace xk:=blk5 x;replace y:=y.below hb2 y.lt;replace yk:=blk2 y;replace z:=z.below hb2 z.lt;replace zk:=blk2 z;replace r:=r.below hb2 r.lt;replace s:=s.below hb2 s.lt;replace cc1:=cc1.below hb2;have hw12:=hb2.size;go_wp2_with fail
 go_at_call 120;refine((c2 _)).mono ?_;rintro e w3 ⟨rfl,hb3⟩;replace hB:=bt hB hb3;replace x:=x.below hb3 x.lt;replace xk:=blk5 x;replace y:=y.below hb3 y.lt;replace yk:=blk2 y;replace z:=z.below hb3 z.lt;replace zk:=blk2 z;replace r:=r.below hb3 r.lt;replace s:=s.below hb3 s.lt;replace cc1:=cc1.below hb3;have hw3:w.heap.size<=w3.heap.size:=hB.size;have hw3s:w.heap.size+1+1+1+1<w3.heap.size:=s.lt;have hw13:w1.heap.size<=w3.heap.size:=Nat.le_trans hw12 hb3.size;have g:=Blk.new w3 176 #[.string (bs D.data),.slice A1 D.cache.length a1,.int .i64 D.fuse,.bool D.off,.slice A2 D.bad.length a2,.int .i64 0];have gk:=blk6 g;have gkf:=g.fz;have hB_16:=Ya hB g;have x_17:=Yc x hB_16;have xk_17:=blk5 x_17;have y_18:=Yc y hB_16;have yk_18:=blk2 y_18;have z_19:=Yc z hB_16;have zk_19:=blk2 z_19;have r_20:=Yc r hB_16;have rk_20:=blk5 r_20;have rkf_20:=r_20.fz;have s_21:=Yc s hB_16;have sk_21:=blk2 s_21;have skf_21:=s_21.fz;have cc1_22:=cc1.below (Yb hB_16);go_wp2_with fail
 generalize (w3.alloc (.cells #[.string (bs D.data),.slice A1 D.cache.length a1,.int .i64 D.fuse,.bool D.off,.slice A2 D.bad.length a2,.int .i64 0] 176))=V at hB_16 x_17 xk_17 y_18 yk_18 z_19 zk_19 r_20 rk_20 rkf_20 s_21 sk_21 skf_21 cc1_22 g gk gkf ⊢;clear hB x y z r s cc1 xk yk zk;have hB:=hB_16;have x:=x_17;have xk:=xk_17;have y:=y_18;have yk:=yk_18;have z:=z_19;have zk:=zk_19;have r:=r_20;have s:=s_21;have cc1:=cc1_22;clear hB_16 x_17 xk_17 y_18 yk_18 z_19 zk_19 r_20 rk_20 rkf_20 s_21 sk_21 skf_21 cc1_22;have hgv:=g.lt;have hzl:=z.lt;have hdo:∀W4:World,StepsAt V W4 3 61 63 77 (6+at_) C1 R.length d1 #[.slice B1 L.targets.length b1,.slice B2 L.data.length b2] ([Stp.flush,Stp.rows (V.heap.size+1) V.heap.size (6+at_) R,Stp.flush,Stp.laid (V.heap.size+1+1) L].map Stp.val)->_:=fun W4 hS=>
  KU [.flush,.rows (V.heap.size+1) V.heap.size (6+at_) R,.flush,.laid (V.heap.size+1+1) L] D ⟨A1,a1⟩ ⟨A2,a2⟩ w3.heap.size (some ⟨V.heap.size+1+1+1,0,none⟩) 4 W4 (g.below hS.below hgv) (HD.out _ (bt hB hS.below)) hf (Hap.out _ hw3) (.inr ⟨_,_,rfl,fun i u hu=>by rw[hS.f.cell,Nat.zero_add];simpa using hu⟩) (fun b off e=>by injection e with e;injection e with e;omega) (by simp) (fun s hs W hgr=>by
   have gk:=hS.k.kept hgr (by simp;omega);have gl:=hS.l.kept hgr (by simp;omega);have gp:=hS.p.kept hgr (by simp;omega);have gc:=(cc1.below hS.below).grown hgr (oc1 _ hw13) (fun e=>List.length_eq_zero_iff.1 e);have gL:=(HL.out _ (bt hB hS.below)).grown hgr ((HL.out _ (Below.refl _ _)).apart hw3);simp only[List.mem_cons,List.not_mem_nil,or_false]at hs
   rcases hs with rfl|rfl|rfl|rfl
   · exact trivial
   · exact⟨C1,d1,gl,gk,gc,⟨by omega,by omega⟩,by omega,fun s hs=>by rw[r3 s hs];omega⟩
   · exact trivial
   · exact⟨⟨B1,b1⟩,⟨B2,b2⟩,gp,gL,Hld.out,by omega⟩)
 have hS:=Ot V 3 61 63 77 (6+at_) C1 R.length d1 #[.slice B1 L.targets.length b1,.slice B2 L.data.length b2] ([Stp.flush,Stp.rows (V.heap.size+1) V.heap.size (6+at_) R,Stp.flush,Stp.laid (V.heap.size+1+1) L].map Stp.val);have hcall:=hdo _ hS;rw[IY]at hcall;simp only[List.map_cons,List.map_nil,Stp.val,List.length_cons,List.length_nil]at hcall hS;generalize comSteps D (6+at_) R L=X at hcall Hw;obtain⟨X,xe⟩:=X;simp only at hcall Hw
 go_region_held3 (fun W=>W.cell? ⟨w.heap.size+1+1,0,none⟩=some (.slice B1 L.targets.length b1)/\W.cell? ⟨w.heap.size+1+1,1,none⟩=some (.slice B2 L.data.length b2))
  (first|exact zk|exact blk2 ((z.drew.alloc _).alloc _)|exact blk2 (((z.drew.alloc _).alloc _).alloc _)|exact blk2 ((((z.drew.alloc _).alloc _).alloc _).alloc _)|exact blk2 ((z.below hS.below hzl).kept gr5 (by simp;omega)))
  (first|(go_at_call 122;refine(K6 _ _ _ _ _).mono ?_;rintro e W4 ⟨rfl,rfl⟩)|(go_at_call 123;refine(KV _ _ _ _ _ _ _).mono ?_;rintro e W5 ⟨rfl,rfl⟩)|(go_at_call 121;refine hcall.mono ?_;rintro e W6 ⟨rfl,gr5,p5,q5,bk5,is5,og5,of5⟩))
 have y6:=(y.below hS.below y.lt).kept gr5 (by simp;omega);have r6:=(r.below hS.below r.lt).kept gr5 (by simp;omega);have s6:=(s.below hS.below s.lt).kept gr5 (by simp;omega);have hv4:=hS.below.size;have B6:=Ip (bt hB hS.below) gr5 hw3 (Nat.le_trans hB.size hv4);have or5:=of5 (w.heap.size+1+1+1) (by omega) (Hap.out _ (by omega));have os5:=of5 (w.heap.size+1+1+1+1) (by omega) (Hap.out _ (by omega));have Hof:=hid (fun b (hb:b<w.heap.size)=>of5 b (by omega));clear hcall hdo hS gr5 of5 xk yk zk gk gkf x y z r s g cc1 oc1 c1 c2;have k6:=blk6 bk5;have ky:=blk2 y6;have kr:=blk5 r6;have fr:=r6.fz;have ks:=blk2 s6;have fs:=s6.fz;by_cases he:xe=0
 · subst he;go_wp2_with fail
   go_region
   have r7:=(AP (Ao r6 (.string (bs X.data)) (.slice p5.a X.cache.length p5.c) (.int .i64 X.fuse) (.bool X.off) (.slice q5.a X.bad.length q5.c)) (g:=w.heap.size+1+1+1+1) (by omega) (.int .u64 ((sj:Int)+1)) (.int .i64 (at_+(R.length:Int)))).drew;have s7:=(Ae (At s6 (g:=w.heap.size+1+1+1) (by omega) (.string (bs X.data)) (.slice p5.a X.cache.length p5.c) (.int .i64 X.fuse) (.bool X.off) (.slice q5.a X.bad.length q5.c)) (.int .u64 ((sj:Int)+1)) (.int .i64 (at_+(R.length:Int)))).drew;have i7:=((is5.off5 or5 (.string (bs X.data)) (.slice p5.a X.cache.length p5.c) (.int .i64 X.fuse) (.bool X.off) (.slice q5.a X.bad.length q5.c)).off (a:=⟨w.heap.size+1+1+1+1,0,none⟩) os5 (.int .u64 ((sj:Int)+1))).off (a:=⟨w.heap.size+1+1+1+1,1,none⟩) os5 (.int .i64 (at_+(R.length:Int)));have B7:=(Af (Am B6 (g:=w.heap.size+1+1+1) (by omega) (.string (bs X.data)) (.slice p5.a X.cache.length p5.c) (.int .i64 X.fuse) (.bool X.off) (.slice q5.a X.bad.length q5.c)) (g:=w.heap.size+1+1+1+1) (by omega) (.int .u64 ((sj:Int)+1)) (.int .i64 (at_+(R.length:Int)))).drew;have yr:=blk5 r7;have ys:=blk2 s7;go_wp2_with fail
   refine bodyPost_ret (v:=.tuple #[dval X p5 q5,.agg #[.int .u64 ((sj:Int)+1),.int .i64 (at_+(R.length:Int))],.int .i64 0]) (by simp[results,Tryz.results78,go_sem,yr,ys]) rfl ?_;exact⟨⟨p5,q5,by rw[Hw.out,if_neg (by simp)];rfl,by rw[Hw.out,if_neg (by simp)];exact i7.below (Below.refl _ _).drew,by rw[Hw.out,if_neg (by simp)];exact fun b hb h=>Hof.out b hb h⟩,B7⟩
 · have n1:(xe !=0)=true:=by simpa using he
   go_wp2_with fail
   go_region
   have r7:=(AP (Ao r6 (.string (bs X.data)) (.slice p5.a X.cache.length p5.c) (.int .i64 X.fuse) (.bool X.off) (.slice q5.a X.bad.length q5.c)) (g:=w.heap.size+1+1+1+1) (by omega) (.int .u64 (sj:Int)) (.int .i64 pj)).drew;have s7:=(Ae (At s6 (g:=w.heap.size+1+1+1) (by omega) (.string (bs X.data)) (.slice p5.a X.cache.length p5.c) (.int .i64 X.fuse) (.bool X.off) (.slice q5.a X.bad.length q5.c)) (.int .u64 (sj:Int)) (.int .i64 pj)).drew;have i7:=((is5.off5 or5 (.string (bs X.data)) (.slice p5.a X.cache.length p5.c) (.int .i64 X.fuse) (.bool X.off) (.slice q5.a X.bad.length q5.c)).off (a:=⟨w.heap.size+1+1+1+1,0,none⟩) os5 (.int .u64 (sj:Int))).off (a:=⟨w.heap.size+1+1+1+1,1,none⟩) os5 (.int .i64 pj);have B7:=(Af (Am B6 (g:=w.heap.size+1+1+1) (by omega) (.string (bs X.data)) (.slice p5.a X.cache.length p5.c) (.int .i64 X.fuse) (.bool X.off) (.slice q5.a X.bad.length q5.c)) (g:=w.heap.size+1+1+1+1) (by omega) (.int .u64 (sj:Int)) (.int .i64 pj)).drew;have yr:=blk5 r7;have ys:=blk2 s7;go_wp2_with fail
   refine bodyPost_ret (v:=.tuple #[dval X p5 q5,.agg #[.int .u64 (sj:Int),.int .i64 pj],.int .i64 xe]) (by simp[results,Tryz.results78,go_sem,yr,ys]) rfl ?_;exact⟨⟨p5,q5,by rw[Hw.out,if_pos he],by rw[Hw.out,if_pos he];exact i7.below (Below.refl _ _).drew,by rw[Hw.out,if_pos he];exact fun b hb h=>Hof.out b hb h⟩,B7⟩
theorem KP (D:Dk)(j:Jr)(L:Pn)(p q p' q':Pl)(w:World)(hD:IsDk w D p q)(hL:IsPn w L p' q')(hf:D.fit=true)(hfl:L.Fit)(h1:j.seq<18446744073709551616)(h2: -9223372036854775808<=j.pos/\j.pos<=9223372036854775807):
 Calls Tryz.prog 78 #[dval D p q,jval j,pval L p' q'] w fun e w'=>RetJr w.heap.size D p q (jrCommit D j L) e w'/\Below w.heap.size w w':=by
 by_cases h0:L.targets=[]
 · exact KT D j L p q p' q' w hD h0
 · rcases Nat.lt_or_ge j.seq 4611686018427387904 with h|h
   · exact KQ D j L p q p' q' w hD hL hf hfl h0 h h2
   · exact KR D j L p q p' q' w hD h0 hfl.2.1 h h1
end
end Go.Proofs.YtmiilfnchfdfcaaGreatDoor
