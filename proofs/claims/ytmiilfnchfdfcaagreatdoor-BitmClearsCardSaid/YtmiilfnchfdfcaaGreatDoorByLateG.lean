/- By: Img10, Span1, RangeS, Span3, Law15b, BitmLaw, Bitm1, LateG. -/
import Derived.BigRegionIn
import Derived.Test.YtmiilfnchfdfcaaGreatDoorByImg7
set_option maxRecDepth 100000
set_option maxHeartbeats 40000000
set_option linter.unusedVariables false
namespace Go.Proofs.YtmiilfnchfdfcaaGreatDoor
section
open Go.RowKit Go.Shelf
attribute [local go_sem] Ad Ag Ah Ac Aj Ai
theorem Dr:smQ0.Fit:=Pn.set_fit Pn.none_fit 0 _
theorem G0:smQ.Fit:=by
 unfold smQ Pn.rtSet
 split
 · exact Dr
 · exact Pn.set_fit Dr _ _
theorem GZ:smP.Fit:=Pn.cntAdd_fit DP.1 G0 0 1
theorem MJ (w:World):Calls Tryz.prog 19 #[] w fun e w'=>(∃p q r,e=.returned (imval smI p q r)/\IsIm w' smI p q r)/\Below w.heap.size w w':=by
 obtain⟨e1,e2,e3,e4,e5,e6,e7,e8,e9⟩:=DP;have hoff:∀(g:Nat)(p q:Pl),DkOff g smD0 p q:=fun g p q=>⟨.inl rfl,.inl rfl⟩
 have hn:=MU 112;rw[show Dk.fresh 112=(smD0,0)from Dk.fresh_blank (n:=112) (by omega) (by omega)]at hn;have hw4:=Nh 20 8;rw[e2]at hw4;have hl4:(writeW 20 8).length<=9223372036854775807:=by
  have:(writeW 20 8).length=64:=by decide+kernel
  omega
 have hset:=fun(W:World)=>Cz Pn.none ⟨none,0⟩ ⟨none,0⟩ W (AQ _) 0 (by decide) (writeW 20 8) hl4 (by decide) rfl
 rw[show Pn.set Pn.none 0 (writeW 20 8)=(smQ0,0)from Prod.ext rfl e3]at hset;have hroot:=fun(W:World)(p q:Pl)(hL:IsPn W smQ0 p q)=>Mw smQ0 p q W hL (by have:=Dr.2.1;omega) Dr.1 0 1 (by decide)
 rw[show Pn.rtSet smQ0 0 1=(smQ,0)from Prod.ext rfl e4]at hroot;have hadd:=fun(W:World)(p q p' q':Pl)(hD:IsDk W smD0 p q)(hL:IsPn W smQ p' q')=>Dl smD0 smQ p q p' q' W hD hL e1 G0 0 1 (by decide)
 rw[show Pn.cntAdd smD0 smQ 0 1=(smP,0)from Prod.ext rfl e5]at hadd;have hlay:=fun(W:World)(p q p' q':Pl)(hD:IsDk W smD0 p q)(hL:IsPn W smP p' q')=>Gz smD0 smP p q p' q' W hD hL GZ.1 (by have:=GZ.2.1;omega)
 rw[show Pn.lay smD0 smP=(smD1,0)from Prod.ext rfl e6]at hlay;have hfl:=fun(W:World)(p q:Pl)(hD:IsDk W smD1 p q)=>Ek smD1 p q W hD e7
 rw[show smD1.flush=(smD,0)from Prod.ext rfl e8]at hfl;have HI:=hid (show smI=⟨smD,20,8,⟨1,0⟩,[],false⟩from rfl);generalize hI:smI=I0 at*;clear hI e1 e2 e3 e4 e5 e6 e7 e8 e9 hl4;generalize smD0=E0 at*;generalize smQ0=Q0 at*;generalize smQ=Q1 at*;generalize smP=P0 at*;generalize smD1=D1 at*;generalize smD=D0 at*;generalize writeW 20 8=S4 at*;have hB:=Below.refl w.heap.size w;have r:=Blk.new w 33 #[.string (bs []),.slice none 0 0,.int .i64 0,.bool false,.slice none 0 0,.int .i64 0,.int .i64 0,.int .u64 0,.int .i64 0,.slice none 0 0,.bool false];have hB_1:=Ya hB r;go_enter Tryz.func19,Tryz.ntmps19;go_wp2_with fail
 go_at_call 48;refine((hn _)).mono ?_;rintro e w1 ⟨⟨p1,q1,rfl,d1⟩,hb1⟩;replace hB:=bt hB_1 hb1;replace r:=r.below hb1 r.lt;clear hB_1;have lr1:w.heap.size<w1.heap.size:=(r).lt;have x:=Blk.new w1 25 #[.string (bs E0.data),.slice p1.a E0.cache.length p1.c,.int .i64 E0.fuse,.bool E0.off,.slice q1.a E0.bad.length q1.c];have xk:=blk5 x;have xkf:=x.fz;have hB_2:=Ya hB x;have r_3:=Yc r hB_2;have d1_4:=d1.below (Yb hB_2);go_wp2_with fail
 go_at_call 49;refine((hw4 _)).mono ?_;rintro e w2 ⟨rfl,hb2⟩;replace hB:=bt hB_2 hb2;replace r:=r_3.below hb2 r_3.lt;replace d1:=d1_4.below hb2;replace x:=x.below hb2 x.lt;replace xk:=blk5 x;replace xkf:=x.fz;clear hB_2 r_3 d1_4;go_wp2_with fail
 go_at_call 50;refine((hset _)).mono ?_;rintro e w3 ⟨⟨p2,q2,rfl,i2,o2⟩,hb3⟩;replace hB:=bt hB hb3;replace r:=r.below hb3 r.lt;replace d1:=d1.below hb3;replace x:=x.below hb3 x.lt;replace xk:=blk5 x;replace xkf:=x.fz;clear o2;have lx3:=(x).lt;have oi2:=i2.apart (Nat.le_refl w3.heap.size);have y:=Blk.new w3 63 #[.slice p2.a Q0.targets.length p2.c,.slice q2.a Q0.data.length q2.c];have yk:=blk2 y;have ykf:=y.fz;have hB_5:=Ya hB y;have r_6:=Yc r hB_5;have d1_7:=d1.below (Yb hB_5);have x_8:=Yc x hB_5;have i2_9:=i2.below (Yb hB_5);have ly3:=(y).lt;go_wp2_with fail
 go_at_call 51;refine((hroot _ p2 q2 i2_9)).mono ?_;rintro e w4 ⟨⟨p3,q3,rfl,i3,o3⟩,hb4⟩;replace hB:=bt hB_5 hb4;replace r:=r_6.below hb4 r_6.lt;replace d1:=d1_7.below hb4;replace x:=x_8.below hb4 x_8.lt;replace xk:=blk5 x;replace xkf:=x.fz;replace i2:=i2_9.below hb4;replace y:=y.below hb4 y.lt;replace yk:=blk2 y;replace ykf:=y.fz;clear hB_5 r_6 d1_7 x_8 i2_9;have oi3:=o3 w3.heap.size ly3 oi2;clear o3;have od3:=hoff w3.heap.size p1 q1;have hB_10:=Af hB (g:=w3.heap.size) (by omega) (.slice p3.a Q1.targets.length p3.c) (.slice q3.a Q1.data.length q3.c);have r_11:=Yk r hB_10;have d1_12:=d1.oa hB_10;have x_13:=Yk x hB_10;have xk_13:=blk5 x_13;have y_14:=Yl y hB_10;have yk_14:=blk2 y_14;have i3_15:=i3.oa hB_10;have ly4:=(y_14).lt;go_wp2_with fail
 go_at_call 52;refine((hadd _ p1 q1 p3 q3 d1_12 i3_15)).mono ?_;rintro e w5 ⟨⟨p4,q4,rfl,i4,o4⟩,hb5⟩;replace hB:=bt hB_10 hb5;replace r:=r_11.below hb5 r_11.lt;replace d1:=d1_12.below hb5;replace x:=x_13.below hb5 x_13.lt;replace xk:=blk5 x;replace xkf:=x.fz;replace y:=y_14.below hb5 y_14.lt;replace yk:=blk2 y;replace ykf:=y.fz;replace i3:=i3_15.below hb5;clear hB_10 r_11 d1_12 xk_13 x_13 yk_14 y_14 i3_15;have oi4:=o4 w3.heap.size ly4 oi3;clear o4;have hB_16:=Af hB (g:=w3.heap.size) (by omega) (.slice p4.a P0.targets.length p4.c) (.slice q4.a P0.data.length q4.c);have r_17:=Yk r hB_16;have d1_18:=d1.oa hB_16;have x_19:=Yk x hB_16;have xk_19:=blk5 x_19;have y_20:=Yl y hB_16;have yk_20:=blk2 y_20;have i4_21:=i4.oa hB_16;have lx5:=(x_19).lt;have lr5:=(r_17).lt;go_wp2_with fail
 go_at_call 53;refine((hlay _ p1 q1 p4 q4 d1_18 i4_21)).mono ?_;rintro e w6 ⟨⟨p5,q5,rfl,d5,o5⟩,hb6⟩;replace hB:=bt hB_16 hb6;replace r:=r_17.below hb6 r_17.lt;replace d1:=d1_18.below hb6;replace x:=x_19.below hb6 x_19.lt;replace xk:=blk5 x;replace xkf:=x.fz;replace y:=y_20.below hb6 y_20.lt;replace yk:=blk2 y;replace ykf:=y.fz;replace i4:=i4_21.below hb6;clear hB_16 r_17 d1_18 xk_19 x_19 yk_20 y_20 i4_21;have od5:=o5 w1.heap.size lx5 (hoff _ _ _);have or5:=o5 w.heap.size lr5 (hoff _ _ _);clear o5;have hB_22:=Am hB (g:=w1.heap.size) (by omega) (.string (bs D1.data)) (.slice p5.a D1.cache.length p5.c) (.int .i64 D1.fuse) (.bool D1.off) (.slice q5.a D1.bad.length q5.c);have r_23:=Yi r hB_22;have x_24:=Yj x hB_22;have xk_24:=blk5 x_24;have y_25:=Yi y hB_22;have d5_26:=d5.ob hB_22;have lx6:=(x_24).lt;have lr6:=(r_23).lt;go_wp2_with fail
 go_at_call 41;refine((hfl _ p5 q5 d5_26)).mono ?_;rintro e w7 ⟨⟨p6,q6,rfl,d6,o6⟩,hb7⟩;replace hB:=bt hB_22 hb7;replace r:=r_23.below hb7 r_23.lt;replace x:=x_24.below hb7 x_24.lt;replace xk:=blk5 x;replace xkf:=x.fz;replace y:=y_25.below hb7 y_25.lt;replace yk:=blk2 y;replace ykf:=y.fz;replace d5:=d5_26.below hb7;clear hB_22 r_23 xk_24 x_24 y_25 d5_26;have od6:=o6 w1.heap.size lx6 od5;have or6:=o6 w.heap.size lr6 or5;clear o6;have hB_27:=Am hB (g:=w1.heap.size) (by omega) (.string (bs D0.data)) (.slice p6.a D0.cache.length p6.c) (.int .i64 D0.fuse) (.bool D0.off) (.slice q6.a D0.bad.length q6.c);have r_28:=Yi r hB_27;have rk_28:=Aa r_28;have rkf_28:=r_28.fz;have x_29:=Yj x hB_27;have xk_29:=blk5 x_29;have d6_31:=d6.ob hB_27;have hB_32:=As hB_27 (g:=w.heap.size) (by omega) (.string (bs D0.data)) (.slice p6.a D0.cache.length p6.c) (.int .i64 D0.fuse) (.bool D0.off) (.slice q6.a D0.bad.length q6.c) (.int .i64 20) (.int .i64 8) (.int .u64 1) (.int .i64 0) (.slice none 0 0) (.bool false);have r_33:=Yh r_28 hB_32;have d6_34:=d6_31.oc hB_32;have yy:=Aa r_33;have dd:=d6_34;have bb:=hB_32;go_wp2_with fail
 refine bodyPost_ret (v:=imval ⟨D0,20,8,⟨1,0⟩,[],false⟩ p6 q6 ⟨none,0⟩) (by simp[results,Tryz.results19,go_sem,yy]) rfl ?_;exact⟨⟨p6,q6,⟨none,0⟩,by rw[HI.out],by rw[HI.out];exact⟨dd,D6 _⟩⟩,bb⟩
theorem Tiles.next {a n:Int}{l:List Cut}(h:Tiles a n l)(hn:0<n):∃l',l=(a/128,a%128,min n (128-a%128))::l'/\Tiles (a+min n (128-a%128)) (n-min n (128-a%128)) l':=by
 cases h with
 |nil h=>omega
 |cons h1 h2 h3=>subst h2;exact⟨_,rfl,h3⟩
theorem Tiles.done {a n:Int}{l:List Cut}(h:Tiles a n l)(hn:n<=0):l=[]:=by
 cases h with
 |nil h=>rfl
 |cons h1=>omega
end
section
open Go.RowKit Go.Shelf
def slB (W:World)(B:Nat):Option Nat:=match W.cell? ⟨B,0,none⟩with|some v=>v.ownBlock| .none=>.none
structure KeepS (B:Nat) (X Y:World):Prop where
 size:X.heap.size<=Y.heap.size
 same:∀(k:Nat)(o:Obj),X.heap[k]? =some o->o.isCells=true->k≠B->slB X B≠some k->Y.heap[k]? =some o
 sl:slB Y B=slB X B\/∃g,slB Y B=some g/\X.heap.size<=g
 wf:(∀g,slB X B=some g->g<X.heap.size)->∀g,slB Y B=some g->g<Y.heap.size
theorem KeepS.trans {B:Nat}{X Y Z:World}(h:KeepS B X Y)(k:KeepS B Y Z):KeepS B X Z:=by
 refine⟨Nat.le_trans h.size k.size,fun i o hi hc hb hs=>?_,?_,fun w=>k.wf (h.wf w)⟩
 · have hlt:=(Array.getElem?_eq_some_iff.1 hi).1;refine k.same i o (h.same i o hi hc hb hs) hc hb fun e=>?_
   rcases h.sl with h1|⟨g,h1,h2⟩
   · exact hs (h1▸e)
   · rw[h1]at e;injection e with e;omega
 · rcases k.sl with k1|⟨g,k1,k2⟩
   · rw[k1];exact h.sl
   · exact .inr ⟨g,k1,Nat.le_trans h.size k2⟩
theorem Dq {X Y:World}{B:Nat}(h:Y.heap[B]? =X.heap[B]?):slB Y B=slB X B:=by
 unfold slB World.cell?;simp only[h]
theorem KeepS.of_same {B:Nat}{X Y:World}(hs:X.heap.size<=Y.heap.size)(hB:Y.heap[B]? =X.heap[B]?)(h:∀(k:Nat)(o:Obj),X.heap[k]? =some o->o.isCells=true->Y.heap[k]? =some o):KeepS B X Y:=
 ⟨hs,fun k o hk hc _ _=>h k o hk hc,.inl (Dq hB),fun w g hg=>by rw[Dq hB]at hg;exact Nat.lt_of_lt_of_le (w g hg) hs⟩
theorem KeepS.putObj {B:Nat}{W:World}{l:Nat}{o o':Obj}(hB:B≠l)(hl:W.heap[l]? =some o)(hc:o.isCells=false):KeepS B W (W.putObj l o'):=by
 refine KeepS.of_same (by simp) (World.putObj_heap_other hB) fun k u hk hu=>?_
 have:k≠l:=by rintro rfl;rw[hl]at hk;cases hk;rw[hc]at hu;cases hu
 exact(World.putObj_heap_other this).trans hk
def SlOk (B lo:Nat)(V:World):Prop:=∀g,slB V B=some g->lo<=g/\g<V.heap.size
theorem SlOk.keep {B lo:Nat}{X Y:World}(h:SlOk B lo X)(hk:KeepS B X Y)(hlo:lo<=X.heap.size):SlOk B lo Y:=fun g hg=>by
 refine⟨?_,hk.wf (fun g hg=>(h g hg).2) g hg⟩
 rcases hk.sl with h1|⟨g',h1,h2⟩
 · exact(h g (h1▸hg)).1
 · rw[h1]at hg;injection hg with hg;omega
theorem SlOk.below {B lo:Nat}{X Y:World}(h:SlOk B lo X)(hb:Below X.heap.size X Y)(hB:B<X.heap.size):SlOk B lo Y:=fun g hg=>by
 rw[Dq (hb.block B hB)]at hg;exact⟨(h g hg).1,Nat.lt_of_lt_of_le (h g hg).2 hb.size⟩
theorem SlOk.set {B lo:Nat}{X:World}(h:SlOk B lo X){a:Addr}(ha:a.block≠B)(v:Value):SlOk B lo (X.setCell a v):=fun g hg=>by
 rw[Dq (Below.heap_setCell _ _ _ _ (Ne.symm ha))]at hg;have:=h g hg;simpa using this
theorem SlOk.ne {B lo:Nat}{X:World}(h:SlOk B lo X){g:Nat}(hg:g<lo):slB X B≠some g:=fun e=>by have:=(h g e).1;omega
theorem SlOk.ne2 {B lo:Nat}{X:World}(h:SlOk B lo X){g:Nat}(hg:X.heap.size<=g):slB X B≠some g:=fun e=>by have:=(h g e).2;omega
theorem KeepS.alloc {B:Nat}{X:World}(hB:B<X.heap.size)(o:Obj):KeepS B X (X.alloc o):=
 KeepS.of_same (by simp) (Below.heap_alloc _ _ _ hB) fun k u hk _=>(Below.heap_alloc _ _ _ (Array.getElem?_eq_some_iff.1 hk).1).trans hk
theorem KeepS.refl (B:Nat)(X:World):KeepS B X X:=KeepS.of_same (Nat.le_refl _) rfl fun _ _ h _=>h
theorem IP {w:World}{a:Addr}{v:Value}(h:w.cell? a=some v):∃o:Obj,w.heap[a.block]? =some o/\o.isCells=true:=by
 unfold World.cell? at h
 split at h
 · rename_i cs t s e;exact⟨_,e,rfl⟩
 · cases h
theorem KeepS.cells {B lo:Nat}{X Y:World}(h:KeepS B X Y)(hs:SlOk B lo X){A:Option Addr}{cs:List Value}(hA:Cells X A cs)(ho:Off B A cs.length)(hl:∀b off,A=some ⟨b,off,none⟩->cs≠[]->b<lo):Cells Y A cs:=by
 rcases hA with hA|⟨b,off,e,hc⟩
 · exact .inl hA
 · rcases ho with h0|h0
   · exact .inl (List.length_eq_zero_iff.1 h0)
   · refine .inr ⟨b,off,e,fun j u hu=>?_⟩;have hcu:=hc j u hu;obtain⟨o,ho1,ho2⟩:=IP hcu;have hne:cs≠[]:=by rintro rfl;cases hu
     have:=h.same b o ho1 ho2 (h0 b off e) (hs.ne (hl b off e hne));rw[<-hcu];exact World.cell?_of_block (this.trans ho1.symm)
theorem H7 {F:Fence}{n:Nat}{P:Program}(w:World){ops:Array Oper}{rest:List Oper}{o:Oper}{a:Act}{Q:Exit->Act->World->Prop}
 (hg:o.guard=none) (s x:Operand) (t:TypeId) (hop:o.op=Op.call {callee:=Callee.builtin Builtin.append,args:=#[s,x],argTypes:=#[t,t]})
 (base:Nat) (e:TypeId) (i:TypeInfo) (z:Value) (size bytes:Nat) (h1:P.underlying t=some (.slice e)) (h2:P.info? e=some i) (h3:i.zero=some z) (h4:i.size=size) (h5:i.bytes=bytes) (h6:z.cells.size=size) (h7:0<size)
 (v:Value) (k:Nat) (xs:List Value) (hs:a.eval s=v) (hown:w.ownsRow base e size v k xs) (ad:Addr) (m c:Nat) (news:List Value) (hm:0<m) (hx:a.eval x=.slice (some ad) m c) (hn:news.length=m*size)
 (hc:∀j u,news[j]? =some u->w.cell? (ad.add j)=some u) (h1c:∀u∈news,u.oneCell'=true) (b1:k+m<=maxLen) (b2:(k+m)*bytes<=140737488355328) (b3:base<=w.heap.size)
 (hK:∀v' w',w'.ownsRow base e size v' (k+m) (xs++news)->w.grownBy w' v.ownBlock->v'.ownBlock=v.ownBlock\/v'.ownBlock=some w.heap.size->wpListIn F n P ops Q rest (a.put o.dst v') w'):
 wpListIn F n P ops Q (o::rest) a w:=by
 refine wpListIn_plain hg fun K hK'=>?_
 obtain⟨v',w',hrun,r1,r2,_⟩:=run_append_own (P:=P) w base t o.type e i z size bytes h1 h2 h3 h4 h5 h6 h7 v k xs hown ad m c news hn hc h1c b1 b2 b3;have r3:v'.ownBlock=v.ownBlock\/v'.ownBlock=some w.heap.size:=by
  subst h4;subst h5
  have hb:=b1;have hb2:=b2
  rcases hown.2 with ⟨rfl,rfl⟩|⟨g,cap,cur,rfl,hbg,hgg,hnc,hcm,hcs,htake⟩
  · have hr:=run_append_nil (P:=P) w t o.type e i z h1 h2 h3 ad m c news hn hc (by omega) (by unfold maxLen at hb;omega) (by simp only[Nat.zero_add]at hb2;omega);rw[hrun]at hr;injection hr with e1 e2
    rw[e1];exact .inr rfl
  · by_cases hroom:k+m<=cap
    · have hfit:k*i.size+news.length<=cur.size:=by rw[hn,hcs,<-Nat.add_mul];exact Nat.mul_le_mul_right _ hroom
      have hr:=run_append_room (P:=P) w t o.type e i h1 h2 g k cap cur hgg ad m c news hn hc h1c hroom hfit;rw[hrun]at hr;injection hr with e1 e2
      rw[e1];exact .inl rfl
    · have hr:=run_append_grow (P:=P) w t o.type e i z h1 h2 h3 ⟨g,0,none⟩ k cap xs hown.1 (hown.cells (g:=g) rfl) ad m c news hn hc (by omega) (by unfold maxLen at hb;omega) (growslice_fits (by omega) hb2);rw[hrun]at hr;injection hr with e1 e2
      rw[e1];exact .inr rfl
 unfold Oper.wpIn;refine⟨?_,?_⟩
 · simp[Oper.about,hop,resolve,Target.leads,Sem.run_pure]
 · rw[Oper.semAt_plain F _ _ (by rw[hop];intro c hc';cases hc')];simp[execOp,hop,resolve,invoke,builtin,hs,hx,hrun,Result.andThen];exact hK' _ _ (hK v' w' r1 r2 r3)
theorem SlOk.none {B lo:Nat}{X:World}{t:TypeId}(h:Blk X B t #[.slice none 0 0]):SlOk B lo X:=fun g hg=>by
 unfold slB at hg;rw[h.cell 0]at hg;cases hg
theorem Cells.lt {w:World}{A:Option Addr}{cs:List Value}(h:Cells w A cs):∀b off,A=some ⟨b,off,.none⟩->cs≠[]->b<w.heap.size:=by
 rintro b off rfl hne
 rcases h with h|⟨b',off',e,hc⟩
 · exact absurd h hne
 · injection e with e;injection e with e1 e2;subst e1;subst e2
   cases cs with
   |nil=>exact absurd rfl hne
   |cons u cs=>exact World.block_lt_of_cell? _ _ (hc 0 u rfl)
theorem Bw (W:World)(b k:Nat)(v:Value):W.grownBy (W.setCell ⟨b,k,none⟩ v) (some b):=⟨rfl,rfl,rfl,by simp,fun j _ hj=>Below.heap_setCell _ _ _ j (fun e=>hj (by rw[e]))⟩
attribute [local go_sem] Ad Ag Ah Ac Aj Ai Oper.semAt_some
def cutCells (l:List Cut):List Value:=l.flatMap fun p=>[.int .i64 p.1,.int .i64 p.2.1,.int .i64 p.2.2]
theorem Jp (l:List Cut):(cutCells l).length=l.length*3:=by
 induction l with
 |nil=>rfl
 |cons x l ih=>simp only[cutCells,List.flatMap_cons,List.length_append,List.length_cons,List.length_nil]at ih ⊢;omega
theorem Jo (l:List Cut)(i:Nat)(h:i<l.length):(cutCells l)[i*3]? =some (.int .i64 l[i].1)/\(cutCells l)[i*3+1]? =some (.int .i64 l[i].2.1)/\(cutCells l)[i*3+2]? =some (.int .i64 l[i].2.2):=by
 induction l generalizing i with
 |nil=>simp at h
 |cons x l ih=>
  have e:cutCells (x::l)=.int .i64 x.1:: .int .i64 x.2.1:: .int .i64 x.2.2::cutCells l:=rfl;cases i with
  |zero=>rw[e];exact⟨rfl,rfl,rfl⟩
  |succ i=>
   have:=ih i (by simpa using h);rw[e,show(i+1)*3=i*3+1+1+1 by omega];simpa using this
theorem Cells.cut {w:World}{A:Option Addr}{l:List Cut}(h:Cells w A (cutCells l)){i:Nat}(hi:i<l.length):
 ∃b off,A=some ⟨b,off,none⟩/\∀j (hj:j<l.length),w.cell? ⟨b,off+j*3,none⟩=some (.int .i64 l[j].1)/\w.cell? ⟨b,off+j*3+1,none⟩=some (.int .i64 l[j].2.1)/\w.cell? ⟨b,off+j*3+2,none⟩=some (.int .i64 l[j].2.2):=by
 rcases h with h|⟨b,off,rfl,h⟩
 · have:=congrArg List.length h;rw[Jp]at this;simp at this;omega
 · refine⟨b,off,rfl,fun j hj=>?_⟩;obtain⟨e1,e2,e3⟩:=Jo l j hj;exact⟨h _ _ e1,by rw[Nat.add_assoc];exact h _ _ e2,by rw[Nat.add_assoc];exact h _ _ e3⟩
end
section
open Go.RowKit Go.Shelf
attribute [local go_sem] Ad Ag Ah Ac Aj Ai
theorem IsIm.off11 {W:World}{x:Im}{p q r:Pl}(h:IsIm W x p q r){g:Nat}(ho:ImOff g x p q r)(v0 v1 v2 v3 v4 v5 v6 v7 v8 v9 v10:Value):IsIm (((((((((((W.setCell ⟨g,0,none⟩ v0).setCell ⟨g,1,none⟩ v1).setCell ⟨g,2,none⟩ v2).setCell ⟨g,3,none⟩ v3).setCell ⟨g,4,none⟩ v4).setCell ⟨g,5,none⟩ v5).setCell ⟨g,6,none⟩ v6).setCell ⟨g,7,none⟩ v7).setCell ⟨g,8,none⟩ v8).setCell ⟨g,9,none⟩ v9).setCell ⟨g,10,none⟩ v10) x p q r:=
 ⟨h.d.off11 ho.1 v0 v1 v2 v3 v4 v5 v6 v7 v8 v9 v10,h.m.off11 ho.2 v0 v1 v2 v3 v4 v5 v6 v7 v8 v9 v10⟩
end
section
def dmFind (l:List Dm)(nm:List UInt8):Int:=match l.findIdx? (fun m=>decide (m.name=nm))with|some i=>(i:Int)|none=> -1
theorem JQ {l:List Dm}{nm:List UInt8}(h:∀j (hj:j<l.length),l[j].name≠nm):dmFind l nm= -1:=by
 have:l.findIdx? (fun m=>decide (m.name=nm))=none:=by
  rw[List.findIdx?_eq_none_iff];intro m hm;obtain⟨j,hj,rfl⟩:=List.getElem_of_mem hm;exact decide_eq_false (h j hj)
 rw[dmFind,this]
theorem JR {l:List Dm}{nm:List UInt8}{i:Nat}(hi:i<l.length)(h:l[i].name=nm)(h2:∀j (hj:j<i),l[j].name≠nm):dmFind l nm=i:=by
 have:l.findIdx? (fun m=>decide (m.name=nm))=some i:=by
  rw[List.findIdx?_eq_some_iff_getElem];exact⟨hi,decide_eq_true h,fun j hj=>by simpa using h2 j hj⟩
 rw[dmFind,this]
theorem Fn (l:List Dm)(nm:List UInt8):(dmFind l nm= -1/\∀j (hj:j<l.length),l[j].name≠nm)\/∃i,∃hi:i<l.length,dmFind l nm=i/\l[i].name=nm:=by
 unfold dmFind;cases h:l.findIdx? (fun m=>decide (m.name=nm))with
 |none=>
  left
  rw[List.findIdx?_eq_none_iff]at h;exact⟨rfl,fun j hj=>by simpa using h _ (List.getElem_mem hj)⟩
 |some i=>
  right
  rw[List.findIdx?_eq_some_iff_getElem]at h;obtain⟨hi,h1,_⟩:=h;exact⟨i,hi,rfl,by simpa using h1⟩
theorem Co (l:List Dm)(nm:List UInt8): -1<=dmFind l nm/\dmFind l nm<l.length:=by
 rcases Fn l nm with ⟨h,_⟩|⟨i,hi,h,_⟩<;>rw[h]<;>omega
def dmFresh (nm:List UInt8):Dm:=⟨nm,true,List.replicate 64 false⟩
theorem Be (nm:List UInt8):(dmFresh nm).bits.length=64:=by simp[dmFresh]
namespace Im
noncomputable def bmPut (x:Im) (nm:List UInt8) (m:Dm) (e:Int):Im×Int:=
 if(Pn.maps x.d Pn.none).2≠0 then(x,(Pn.maps x.d Pn.none).2)else if dmFind (Pn.maps x.d Pn.none).1 nm<0 then(x,e)
 else if(Pn.dmSet Pn.none (dmFind (Pn.maps x.d Pn.none).1 nm) m).2≠0 then(x,(Pn.dmSet Pn.none (dmFind (Pn.maps x.d Pn.none).1 nm) m).2)else x.done (Pn.dmSet Pn.none (dmFind (Pn.maps x.d Pn.none).1 nm) m).1
def withMaps (x:Im)(l:List Dm):Im:={x with maps:=l}
noncomputable def bmAdd (x:Im) (nm:List UInt8):Im×Int:=
 if x.br=true then(x,24)else if nameOk nm=false then(x,19)else if 0<=dmFind x.maps nm then(x,20)else if 2<=x.maps.length then(x,17)
 else if(Pn.maps x.d Pn.none).2=0/\0<=dmFind (Pn.maps x.d Pn.none).1 nm then(x,20)
 else if(bmPut x [] (dmFresh nm) 17).2=0 then((bmPut x [] (dmFresh nm) 17).1.withMaps (x.maps++[dmFresh nm]),0)else bmPut x [] (dmFresh nm) 17
def bmClear (x:Im)(nm:List UInt8):Im×Int:=
 if x.br=true then(x,24)else if dmFind x.maps nm<0 then(x,21)else(x.withMaps (x.maps.set (dmFind x.maps nm).toNat (dmFresh nm)),0)
def saveStep (l:List Dm)(X:Pn×Int)(m:Dm):Pn×Int:=
 if X.2≠0 then X else if dmFind l m.name<0 then(X.1,21)else Pn.dmSet X.1 (dmFind l m.name) {m with use:=false}
def saveAll (l:List Dm)(ms:List Dm)(e:Int):Pn×Int:=ms.foldl (saveStep l) (Pn.none,e)
def flushed (x:Im):Im×Int:=if x.d.flush.2≠0 then({x with d:=x.d.flush.1,br:=true},x.d.flush.2)else({x with d:=x.d.flush.1,maps:=[]},0)
noncomputable def bmSave (x:Im):Im×Int:=
 if x.br=true then(x,24)else if(saveAll (Pn.maps x.d Pn.none).1 x.maps (Pn.maps x.d Pn.none).2).2≠0 then(x,(saveAll (Pn.maps x.d Pn.none).1 x.maps (Pn.maps x.d Pn.none).2).2)
 else if(x.done (saveAll (Pn.maps x.d Pn.none).1 x.maps (Pn.maps x.d Pn.none).2).1).2≠0 then x.done (saveAll (Pn.maps x.d Pn.none).1 x.maps (Pn.maps x.d Pn.none).2).1
 else flushed (x.done (saveAll (Pn.maps x.d Pn.none).1 x.maps (Pn.maps x.d Pn.none).2).1).1
def dmLoaded (m:Dm):Dm:=if m.use=true then⟨m.name,true,List.replicate 64 true⟩else {m with use:=true}
def loadStep (X:(Pn×List Dm)×Int)(p:Nat×Dm):(Pn×List Dm)×Int:=
 if X.2≠0 then X else if p.2.name=[]then X else if p.2.use=true then((X.1.1,X.1.2++[dmLoaded p.2]),0)
 else if(Pn.dmSet X.1.1 p.1 (dmFresh p.2.name)).2≠0 then((X.1.1,X.1.2),(Pn.dmSet X.1.1 p.1 (dmFresh p.2.name)).2)else(((Pn.dmSet X.1.1 p.1 (dmFresh p.2.name)).1,X.1.2++[dmLoaded p.2]),0)
def numbered (l:List Dm):List (Nat×Dm):=(List.range l.length).map fun i=>(i,l.getD i Dm.zero)
def loadAll (l:List Dm):(Pn×List Dm)×Int:=(numbered l).foldl loadStep ((Pn.none,[]),0)
noncomputable def bmLoad (x:Im):Im×Int:=
 if x.br=true then(x,24)else if(Pn.maps x.d Pn.none).2≠0 then(x,(Pn.maps x.d Pn.none).2)else if(loadAll (Pn.maps x.d Pn.none).1).2≠0 then(x,(loadAll (Pn.maps x.d Pn.none).1).2)
 else if(x.done (loadAll (Pn.maps x.d Pn.none).1).1.1).2=0 then((x.done (loadAll (Pn.maps x.d Pn.none).1).1.1).1.withMaps (loadAll (Pn.maps x.d Pn.none).1).1.2,0)else x.done (loadAll (Pn.maps x.d Pn.none).1).1.1
def putC (x:Im)(nm:List UInt8)(m:Dm)(e:Int):Im×Int:=
 if(Pn.maps x.d Pn.none).2≠0 then(x,(Pn.maps x.d Pn.none).2)else if dmFind (Pn.maps x.d Pn.none).1 nm<0 then(x,e)
 else if(Pn.dmSet Pn.none (dmFind (Pn.maps x.d Pn.none).1 nm) m).2≠0 then(x,(Pn.dmSet Pn.none (dmFind (Pn.maps x.d Pn.none).1 nm) m).2)else doneC x (Pn.dmSet Pn.none (dmFind (Pn.maps x.d Pn.none).1 nm) m).1
theorem Mi (x:Im)(nm:List UInt8)(m:Dm)(e:Int):bmPut x nm m e=putC x nm m e:=by unfold bmPut putC;rw[CQ]
def addC (x:Im)(nm:List UInt8):Im×Int:=
 if x.br=true then(x,24)else if nameOk nm=false then(x,19)else if 0<=dmFind x.maps nm then(x,20)else if 2<=x.maps.length then(x,17)
 else if(Pn.maps x.d Pn.none).2=0/\0<=dmFind (Pn.maps x.d Pn.none).1 nm then(x,20)
 else if(putC x [] (dmFresh nm) 17).2=0 then((putC x [] (dmFresh nm) 17).1.withMaps (x.maps++[dmFresh nm]),0)else putC x [] (dmFresh nm) 17
theorem addC_eq (x:Im)(nm:List UInt8):bmAdd x nm=addC x nm:=by unfold bmAdd addC;rw[Mi]
def saveC (x:Im):Im×Int:=
 if x.br=true then(x,24)else if(saveAll (Pn.maps x.d Pn.none).1 x.maps (Pn.maps x.d Pn.none).2).2≠0 then(x,(saveAll (Pn.maps x.d Pn.none).1 x.maps (Pn.maps x.d Pn.none).2).2)
 else if(doneC x (saveAll (Pn.maps x.d Pn.none).1 x.maps (Pn.maps x.d Pn.none).2).1).2≠0 then doneC x (saveAll (Pn.maps x.d Pn.none).1 x.maps (Pn.maps x.d Pn.none).2).1
 else flushed (doneC x (saveAll (Pn.maps x.d Pn.none).1 x.maps (Pn.maps x.d Pn.none).2).1).1
theorem saveC_eq (x:Im):bmSave x=saveC x:=by unfold bmSave saveC;rw[CQ]
def loadC (x:Im):Im×Int:=
 if x.br=true then(x,24)else if(Pn.maps x.d Pn.none).2≠0 then(x,(Pn.maps x.d Pn.none).2)else if(loadAll (Pn.maps x.d Pn.none).1).2≠0 then(x,(loadAll (Pn.maps x.d Pn.none).1).2)
 else if(doneC x (loadAll (Pn.maps x.d Pn.none).1).1.1).2=0 then((doneC x (loadAll (Pn.maps x.d Pn.none).1).1.1).1.withMaps (loadAll (Pn.maps x.d Pn.none).1).1.2,0)else doneC x (loadAll (Pn.maps x.d Pn.none).1).1.1
theorem loadC_eq (x:Im):bmLoad x=loadC x:=by unfold bmLoad loadC;rw[CQ]
end Im
def bm1C:Im:=(smI.addC [109]).1
def bm2C:Im:=(bm1C.writeC 3 0 [120]).1
def bm3C:Im:=bm2C.saveC.1
def bm4C:Im:=bm3C.loadC.1
def bm5C:Im:=bm4C.loadC.1
theorem CS:(smI.addC [109]).2=0/\(bm1C.writeC 3 0 [120]).2=0/\bm2C.saveC.2=0/\bm3C.loadC.2=0/\bm4C.loadC.2=0/\bm2C.maps=[⟨[109],true,(List.replicate 64 false).set 3 true⟩]/\bm4C.maps=bm2C.maps/\bm5C.maps=[⟨[109],true,List.replicate 64 true⟩]/\bm1C.d.fit=true/\bm2C.d.fit=true/\bm3C.d.fit=true/\bm4C.d.fit=true/\bm1C.maps.length=1:=by decide+kernel
end
section
open Go.RowKit Go.Shelf
attribute [local go_sem] Ad Ag Ah Ac Aj Ai
theorem Fq:∀(l:List Dm),(∀m∈l,m.bits.length=64)->∀j (hj:j<l.length) k v,(dmCells l[j])[k]? =some v->(dmRows l)[j*66+k]? =some v:=fun l=>by
 induction l with
 |nil=>intro _ j hj;simp at hj
 |cons x l ih=>
  intro hl j hj k v hv;have hx:=AH (hl x (by simp));show(dmCells x++dmRows l)[j*66+k]? =some v;cases j with
  |zero=>
   have hk:k<(dmCells x).length:=(List.getElem?_eq_some_iff.1 hv).1;rw[Nat.zero_mul,Nat.zero_add,List.getElem?_append_left hk];exact hv
  |succ j=>
   rw[List.getElem?_append_right (by omega),hx,show(j+1)*66+k-66=j*66+k by omega];exact ih (fun m hm=>hl m (by simp[hm])) j (by simpa using hj) k v hv
theorem IsMs.rows {w:World}{l:List Dm}{r:Pl}(h:IsMs w l r)(h0:0<l.length):∃b off,r.a=some ⟨b,off,none⟩/\b<w.heap.size/\∀j (hj:j<l.length),w.rangeAt b (off+j*dmN) (dmCells l[j]):=by
 rcases h.row with h1|⟨b,off,e,hc⟩
 · have:=congrArg List.length h1;rw[Bv h.bits]at this;simp at this;omega
 · have h66:=AH (h.bits _ (List.getElem_mem h0));refine⟨b,off,e,?_,fun j hj k v hv=>?_⟩
   · obtain⟨v,hv⟩:∃v,(dmCells l[0])[0]? =some v:=⟨_,rfl⟩;exact AZ (hc _ v (Fq l h.bits 0 h0 0 v hv))
   · rw[Nat.add_assoc,dmN];exact hc _ _ (Fq l h.bits j hj k v hv)
theorem IsMs.of_own {w:World}{base:Nat}{t:TypeId}{l:List Dm}{A:Option Addr}{c n:Nat}(hn:n=l.length)(h:w.ownsRow base t 66 (.slice A n c) n (dmRows l))(hb:∀m∈l,m.bits.length=64)(hm:∀m∈l,m.name.length<=maxLen):IsMs w l ⟨A,c⟩:=by
 subst hn;obtain⟨A',c',e,h1,h2,h3⟩:=Az h;injection e with e1 e2 e3
 subst e1 e3;exact⟨Cells.of_own h,h3,h1,h2,hb,hm⟩
theorem JS (D:Dk)(L:Pn)(i:Nat):(Pn.dmGet D L i).1.name.length<=8:=by
 have hz:Dm.zero.name.length<=8:=by decide
 unfold Pn.dmGet
 split
 · exact hz
 split
 · unfold Dm.of
   split
   · exact hz
   · exact HQ _
 · exact hz
theorem CY (D:Dk)(L:Pn):(Pn.maps D L).1.length<=2/\(∀m∈(Pn.maps D L).1,m.bits.length=64)/\∀m∈(Pn.maps D L).1,m.name.length<=maxLen:=by
 refine⟨Ie 2,fun m hm=>?_,fun m hm=>?_⟩
 · obtain⟨i,_,rfl⟩:=EM 2 m hm;exact Fo D L i
 · obtain⟨i,_,rfl⟩:=EM 2 m hm;have:=JS D L i;unfold maxLen;omega
theorem IE (m:Dm)(h64:m.bits.length=64)(hm:m.name.length<=maxLen)(nm:List UInt8)(hnm:nm.length<=maxLen)(Bn:Nat)(w:World)(bn:Blk w Bn 9 #[.string (bs nm)]):
 Calls Tryz.prog 68 #[dmval m,.pointer (some ⟨Bn,0,none⟩)] w fun e w'=>e=.returned (.bool (decide (m.name=nm)))/\Below w.heap.size w w':=by
 unfold maxLen at hm hnm;have hB:=Below.refl w.heap.size w;have x:=Blk.new w 42 (dmCells m).toArray;have xk:=Tryz.dm_all m h64 x;have hB_1:=hB.alloc hB.size (.cells (dmCells m).toArray 42);have bn_2:=Yc bn hB_1;have bk_2:=blk1 bn_2;obtain⟨mn,hmn⟩:∃mn,m.name=mn:=⟨_,rfl⟩;have Hq:=hid (show decide (m.name=nm)=(mn==nm) by rw[hmn,Bool.eq_iff_iff];simp);have xc:=(x).cell 0;have xc2:_=some (Value.string (bs mn)):=xc.trans (by rw[<-hmn];rfl);clear xc;go_enter Tryz.func68,Tryz.ntmps68;by_cases hq:mn=nm
 · have q1:(mn==nm)=true:=by simpa using hq
   have Hr:=hid (Hq.out.trans q1);go_wp2_with fail
   go_ret
   rw[Hr.out];exact⟨rfl,hB_1⟩
 · have q1:(mn==nm)=false:=by simpa using hq
   have Hr:=hid (Hq.out.trans q1);go_wp2_with fail
   go_ret
   rw[Hr.out];exact⟨rfl,hB_1⟩
theorem IC (l:List Dm)(r:Pl)(nm:List UInt8)(hnm:nm.length<=maxLen)(Bn:Nat)(w:World)(hM:IsMs w l r)(bn:Blk w Bn 9 #[.string (bs nm)]):
 Calls Tryz.prog 67 #[.slice r.a l.length r.c,.func (.func 68) #[] #[.pointer (some ⟨Bn,0,none⟩)]] w fun e w'=>e=.returned (.int .i64 (dmFind l nm))/\Below w.heap.size w w':=by
 have hll:=Nat.le_trans hM.cap hM.max;unfold maxLen at hll;have H64:=hid hM.bits;have Hnm:=hid hM.name;have Hc:=hid (fun(h:0<l.length)=>hM.rows h);have hcl:=fun(W:World)(hb:Below w.heap.size w W)(m:Dm)(h1:m.bits.length=64)(h2:m.name.length<=maxLen)=>IE m h1 h2 nm hnm Bn W (bn.below hb bn.lt)
 have a36:=Tryz.dm_agg;have z36:=Tryz.dm_siz;clear hM bn;obtain⟨A3,a3⟩:=r;go_enter Tryz.func67,Tryz.ntmps67;go_wp2_with fail
 go_loopw [8] (fun x W=>∃m:Nat,m<=l.length/\x=.int .i64 m/\Hid (∀j (hj:j<l.length),j<m->l[j].name≠nm)/\Below w.heap.size w W) (fun x _=>l.length-(intOf x).toNat)
 case atStart=>exact⟨0,Nat.zero_le _,rfl,hid (fun j _ h=>by omega),Below.refl _ _⟩
 case round=>
  obtain⟨m,hm,rfl,hno,hb⟩:=hrel;by_cases hlt:m<l.length
  · obtain⟨gb,go,ea,hgb,hcs⟩:=Hc.out (by omega);have ea':A3=some ⟨gb,go,none⟩:=ea;subst ea';have h64:=H64.out _ (List.getElem_mem hlt);have hcl2:=hcl wr hb l[m] h64 (Hnm.out _ (List.getElem_mem hlt));have k1:=Tryz.dm_load l[m] h64 (BC (hcs m hlt) hb);obtain⟨e,he⟩:∃e,l[m]=e:=⟨_,rfl⟩;have Hyes:=hid (fun(h:e.name=nm)=>show dmFind l nm=(m:Int)from JR hlt (by rw[he];exact h) fun j hj=>hno.out j (by omega) hj);have Hno:=hid (fun(h:e.name≠nm)(j:Nat)(hj:j<l.length)(hj2:j<m+1)=>show l[j].name≠nm by
     rcases Nat.lt_or_eq_of_le (Nat.le_of_lt_succ hj2)with h9|h9
     · exact hno.out j hj h9
     · subst h9;rw[he];exact h)
    rw[he]at hcl2 k1;clear he h64 hcs hcl hno;by_cases hq:e.name=nm
    · rw[decide_eq_true hq]at hcl2;have Hy:=hid (Hyes.out hq);clear Hyes Hno hq;go_wp2_with fail
      refine hcl2.mono ?_;rintro e w2 ⟨rfl,hb2⟩;go_wp2_with fail
      go_ret
      rw[Hy.out];exact⟨rfl,bt hb hb2⟩
    · rw[decide_eq_false hq]at hcl2;have Hy:=hid (Hno.out hq);clear Hyes Hno hq;go_wp2_with fail
      refine hcl2.mono ?_;rintro e w2 ⟨rfl,hb2⟩;go_wp2_with fail
      go_roundw
      case rel=>exact⟨m+1,by omega,by go_num,Hy,bt hb hb2⟩
      case measure=>simp[intOf];omega
  · obtain rfl:m=l.length:=by omega
    have Hy:=hid (show dmFind l nm= -1 from JQ fun j hj=>hno.out j hj hj);clear hno;go_wp2_with fail
    go_ret
    rw[Hy.out];exact⟨rfl,hb⟩
theorem Cl (l:List Dm)(r:Pl)(nm:List UInt8)(hnm:nm.length<=maxLen)(w:World)(hM:IsMs w l r):
 Calls Tryz.prog 27 #[.slice r.a l.length r.c,.string (bs nm)] w fun e w'=>e=.returned (.int .i64 (dmFind l nm))/\Below w.heap.size w w':=by
 have hix:=fun(W:World)(hb:Below w.heap.size w W)(Bn:Nat)(bn:Blk W Bn 9 #[.string (bs nm)])=>IC l r nm hnm Bn W (hM.below hb) bn
 clear hM;obtain⟨A3,a3⟩:=r;have hB:=Below.refl w.heap.size w;have y:=Blk.new w 9 #[.string (bs nm)];have hB_1:=Ya hB y;go_enter Tryz.func27,Tryz.ntmps27;go_wp2_with fail
 go_at_call 67;refine(hix _ hB_1 _ y).mono ?_;rintro e w1 ⟨rfl,hb1⟩;have hB1:=bt hB_1 hb1;go_wp2_with fail
 go_ret
 exact⟨rfl,hB1⟩
theorem IA (x:Im)(p q r:Pl)(w:World)(hI:IsIm w x p q r)(nm:List UInt8)(hnm:nm.length<=maxLen):
 Calls Tryz.prog 21 #[imval x p q r,.string (bs nm)] w fun e w'=>e=.returned (.tuple #[.int .i64 (if x.br=true then 0 else if dmFind x.maps nm<0 then 0 else dmFind x.maps nm),.int .i64 (if x.br=true then 24 else if dmFind x.maps nm<0 then 21 else 0)])/\Below w.heap.size w w':=by
 have hna:=fun(W:World)(hb:Below w.heap.size w W)=>Cl x.maps r nm hnm W (hI.m.below hb)
 clear hI;obtain⟨D,g,h,⟨seq,pos⟩,maps,br⟩:=x;simp only at hna ⊢;obtain⟨k,hk⟩:∃k,dmFind maps nm=k:=⟨_,rfl⟩;rw[hk]at hna ⊢;clear hk;obtain⟨A1,a1⟩:=p;obtain⟨A2,a2⟩:=q;obtain⟨A3,a3⟩:=r;have hB:=Below.refl w.heap.size w;have x:=Blk.new w 33 #[.string (bs D.data),.slice A1 D.cache.length a1,.int .i64 D.fuse,.bool D.off,.slice A2 D.bad.length a2,.int .i64 g,.int .i64 h,.int .u64 seq,.int .i64 pos,.slice A3 maps.length a3,.bool br];have xk:=Aa x;have hB_1:=Ya hB x;cases br with
 |true=>
  rw[if_pos rfl,if_pos rfl];go_enter Tryz.func21,Tryz.ntmps21;go_wp2_with fail
  go_at_call 27;refine((hna _ hB_1)).mono ?_;rintro e w1 ⟨rfl,hb1⟩;replace hB:=bt hB_1 hb1;replace x:=x.below hb1 x.lt;replace xk:=Aa x;clear hB_1;go_wp2_with fail
  go_ret2
  exact⟨rfl,hB⟩
 |false=>
  rw[if_neg (show¬(false=true) by simp),if_neg (show¬(false=true) by simp)];by_cases h0:k<0
  · have d0:decide (k<0)=true:=decide_eq_true h0;rw[if_pos h0,if_pos h0];clear h0;go_enter Tryz.func21,Tryz.ntmps21;go_wp2_with fail
    go_at_call 27;refine((hna _ hB_1)).mono ?_;rintro e w1 ⟨rfl,hb1⟩;replace hB:=bt hB_1 hb1;replace x:=x.below hb1 x.lt;replace xk:=Aa x;clear hB_1;go_wp2_with fail
    go_ret2
    exact⟨rfl,hB⟩
  · have d0:decide (k<0)=false:=decide_eq_false h0;rw[if_neg h0,if_neg h0];clear h0;go_enter Tryz.func21,Tryz.ntmps21;go_wp2_with fail
    go_at_call 27;refine((hna _ hB_1)).mono ?_;rintro e w1 ⟨rfl,hb1⟩;replace hB:=bt hB_1 hb1;replace x:=x.below hb1 x.lt;replace xk:=Aa x;clear hB_1;go_wp2_with fail
    go_ret2
    exact⟨rfl,hB⟩
theorem Tryz.build_dmf (nm:List UInt8)(w:World):(Instr.build 42 #[(0,.string (bs nm)),(1,.bool true)]).run Tryz.prog w=.ok (dmval (dmFresh nm)) w:=by kernel_rfl
theorem Tryz.run_dmf {ρ:Operand->Value}{o:Oper}(x y:Operand)(ho:o.op=.build 42 #[(0,x),(1,y)])(nm:List UInt8)(hx:ρ x=.string (bs nm))(hy:ρ y=.bool true)(w:World):(execOp ρ o).run Tryz.prog w=.ok (.value (dmval (dmFresh nm))) w:=by
 have h0:(#[(0,x),(1,y)]:Array (Nat×Operand)).map (fun p=>(p.1,ρ p.2))=#[(0,.string (bs nm)),(1,.bool true)]:=by simp[hx,hy]
 unfold execOp;simp only[ho,h0,Sem.run_bind,Tryz.build_dmf,Result.andThen_ok,Sem.run_pure]
theorem DF (nm:List UInt8)(w:World):Calls Tryz.prog 23 #[.string (bs nm)] w fun e w'=>e=.returned (dmval (dmFresh nm))/\Below w.heap.size w w':=by
 have a36:=Tryz.dm_agg;have z36:=Tryz.dm_siz;have hM:=Be nm;have hbf:=fun(ρ:Operand->Value)(o:Oper)(x y:Operand)(ho:o.op=.build 42 #[(0,x),(1,y)])(hx:ρ x=.string (bs nm))(hy:ρ y=.bool true)(w:World)=>Tryz.run_dmf x y ho nm hx hy w
 have dz:Blk (w.alloc (.cells Tryz.zeroCells42 42)) w.heap.size 42 (dmCells Dm.zero).toArray:=by rw[<-Tryz.dm_zeros];exact Blk.new _ _ _
 generalize dmFresh nm=M at*;have st:=Tryz.dm_put M hM rfl dz;have b8:=AM (Yz (W:=w) (.cells Tryz.zeroCells42 42)) (g:=w.heap.size) (Nat.le_refl _) M;have dd:=AN dz M rfl hM;have yy:=Tryz.dm_all M hM dd;have dl:=AU hM;go_enter Tryz.func23,Tryz.ntmps23;go_wp2_with (refine BL rfl (dmval M) (hbf _ _ _ _ rfl rfl rfl _) ?_)
 refine bodyPost_ret (v:=dmval M) (by simp[results,Tryz.results23,go_sem,yy,a36,z36]) rfl ?_;exact⟨rfl,b8⟩
theorem EY (l:List Dm)(r:Pl)(w:World)(hM:IsMs w l r)(hl:l.length<=1000000):
 Calls Tryz.prog 22 #[.slice r.a l.length r.c] w fun e w'=>∃v',e=.returned v'/\w'.ownsRow w.heap.size 42 66 v' l.length (dmRows l)/\Below w.heap.size w w':=by
 have q22:∀(w:World)(a:Option Addr)(n c n' c':Nat),(binOp .eql 31 (.slice a n c) (.slice none n' c')).run Tryz.prog w=.ok (.bool a.isNone) w:=fun w a n c n' c'=>Lib.run_eql_slice_nil w _ _ a n c n' c' Tryz.underlying31
 obtain⟨i0,hi,hz0,hz1,hz2⟩:=info_parts Tryz.infoDmap3;have hA:=hM.row;have h64:=hM.bits;have hcap:=hM.cap;have hn:=hM.nil;clear hM;obtain⟨A,c⟩:=r;simp only at hA hcap hn ⊢;cases A with
 |none=>
  have hl0:l=[]:=List.length_eq_zero_iff.1 (by have:=hn rfl;omega);subst hl0;go_enter Tryz.func22,Tryz.ntmps22;go_wp2_with fail
  go_ret
  exact⟨_,rfl,World.ownsRow_nil _ _ _ _,Below.refl _ _⟩
 |some ad=>
  have hrl:=Bv h64;go_enter Tryz.func22,Tryz.ntmps22;go_wp2_with (at_builtin;refine A6 rfl _ _ 31 rfl w.heap.size 42 i0 (dmval Dm.zero) 66 88 Tryz.underlying31 hi hz0 hz1 hz2 rfl (by decide) _ 0 [] rfl (World.ownsRow_made w #[] 0 (Nat.le_refl _) (Nat.zero_le _) rfl) (some ad) l.length c (dmRows l) rfl (hA.below (Yz _)) hrl (fun h=>by cases h) (Ga _) (by unfold maxLen;omega) (by omega) (by simp) ?_;intro v1 w3 hown1 hbl1;rw[Nat.zero_add,List.nil_append]at hown1)
  go_ret
  exact⟨_,rfl,hown1,(Yz _).trans hbl1⟩
end
section
open Go Go.RowKit Go.Shelf
section
variable {P:Program} {md:Region.Mode} {ops:Array Oper} {Q:Exit->Act->World->Prop} {S:World->Prop} {late:Nat->Bool}
theorem Dw {i:Nat}{oi:Oper}{v:Value}{d:Option Tmp}{fuel:Nat}{listed:Array Bool}{a:Act}{w:World}(hi:ops[i]? =some oi)(hd:oi.dst=d)
 (hs:Region.noSelect ops=true) (hf:Region.free md ops listed i=true) (hr:(Region.ready md ops listed).contains i=true)
 (hQ:∀c a w,Q (.panic c) (a.put d v) w->Q (.panic c) a w) (hg:Region.wanted oi (yielded ops a.tmps)=true) (hy:∀w,(execOp a.eval oi).run P w=.ok (.value v) w)
 (h:wpLate P md ops Q S late fuel (listed.setIfInBounds i true) (a.put d v) w):wpLate P md ops Q S late (fuel+1) listed a w:=by
 subst hd;exact EG hi (Region.noSelect_spec hs) hQ fuel listed a w (Region.free_spec hi hf) (by simpa using hr) (.inl ⟨hg,fun w _=>hy w⟩) h
theorem Dv {i:Nat}{oi:Oper}{d:Option Tmp}{fuel:Nat}{listed:Array Bool}{a:Act}{w:World}(hi:ops[i]? =some oi)(hd:oi.dst=d)
 (hs:Region.noSelect ops=true) (hf:Region.free md ops listed i=true) (hr:(Region.ready md ops listed).contains i=true)
 (hQ:∀c a w,Q (.panic c) (a.put d undef) w->Q (.panic c) a w) (hg:Region.wanted oi (yielded ops a.tmps)=false)
 (h:wpLate P md ops Q S late fuel (listed.setIfInBounds i true) (a.put d undef) w):wpLate P md ops Q S late (fuel+1) listed a w:=by
 subst hd;exact EG hi (Region.noSelect_spec hs) hQ fuel listed a w (Region.free_spec hi hf) (by simpa using hr) (.inr ⟨hg,rfl⟩) h
theorem H9 {id:Nat}{K:Act->World->Prop}{a:Act}{w:World}(hm:P.follows .mixedOrders=true)
 (h:wpLate P .any ops (Exit.then K (fun _ _ _=>False)) S late ops.size (Array.replicate ops.size false) a w.drew):(Code.region id ops true).wp P (Exit.then K Q) a w:=
 Go.wp_mono (AT hm h) (by intro e a w h;cases e<;>first|exact h|exact h.elim)
end
end
end Go.Proofs.YtmiilfnchfdfcaaGreatDoor
