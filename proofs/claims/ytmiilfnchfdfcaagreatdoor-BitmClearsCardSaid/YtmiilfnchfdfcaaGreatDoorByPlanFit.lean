/- By: Txn2, BldW, Txn3, PlanFit. -/
import Derived.Test.YtmiilfnchfdfcaaGreatDoorByLay2
import Derived.Lib.Builder
import Derived.Shelf.Strings.Builder1
import Derived.Test.YtmiilfnchfdfcaaGreatDoorShelfB
import Derived.Shelf.Strings.OnBuilder
import Derived.Shelf.RegionOpen
set_option maxRecDepth 100000
set_option maxHeartbeats 40000000
set_option linter.unusedVariables false
namespace Go.Proofs.YtmiilfnchfdfcaaGreatDoor
section
open Go.RowKit Go.Shelf
attribute [local go_sem] Ad Ag Ah Ac Aj Ai
theorem Pu (x:Nat)(hx:x<18446744073709551616)(k:Nat)(h1:1<=k)(h2:k<=8)(w:World):
 Calls Tryz.prog 145 #[.int .u64 x,.int .i64 k] w fun e w'=>e=.returned (.string (bs (be k x)))/\Below w.heap.size w w':=by
 have hp:=fun W=>Gr x k hx h1 h2 W
 go_enter Tryz.func145,Tryz.ntmps145;go_wp2_with (go_at_call 175;refine(hp _).mono ?_;rintro e w' ⟨rfl,hb⟩)
 go_ret
 exact⟨rfl,hb⟩
theorem EC (x:Nat)(hx:x<9223372036854775808)(k:Nat)(h1:1<=k)(h2:k<=8)(w:World):
 Calls Tryz.prog 146 #[.int .i64 x,.int .i64 k] w fun e w'=>e=.returned (.string (bs (be k x)))/\Below w.heap.size w w':=by
 have hp:=fun W=>Gr x k (by omega) h1 h2 W
 have hw:=u64w (x:=(x:Int)) ⟨by omega,by omega⟩;go_enter Tryz.func146,Tryz.ntmps146;go_wp2_with (go_at_call 175;refine(hp _).mono ?_;rintro e w' ⟨rfl,hb⟩)
 go_ret
 exact⟨rfl,hb⟩
theorem HX (s:List UInt8)(hs:s.length<=64)(w:World):Calls Tryz.prog 150 #[.string (bs s)] w fun e w'=>e=.returned (.string (bs (Au s)))/\Below w.heap.size w w':=by
 have hp:=fun W=>Eg s (by unfold maxLen;omega) 64 (by omega) (by omega) W
 go_enter Tryz.func150,Tryz.ntmps150;go_wp2_with (go_at_call 66;refine(hp _).mono ?_;rintro e w' ⟨rfl,hb⟩)
 go_ret
 exact⟨rfl,hb⟩
theorem GC (s:List UInt8)(hs:s.length<=64)(w:World):Calls Tryz.prog 142 #[.string (bs s)] w fun e w'=>e=.returned (.string (bs (Au s)))/\Below w.heap.size w w':=by
 have hp:=fun W=>Et s (by unfold maxLen;omega) 64 (by omega) (by omega) W
 go_enter Tryz.func142,Tryz.ntmps142;go_wp2_with (go_at_call 87;refine(hp _).mono ?_;rintro e w' ⟨rfl,hb⟩)
 go_ret
 exact⟨rfl,hb⟩
end
section
open Go.RowKit Go.Shelf
attribute [local go_sem] Ad Ag Ah Ac Aj Ai Oper.semAt_some
def chEnc (b off len:Nat)(j:Fin ((len+15)/16)):Array Value:=#[.slice (some ⟨b,off+16*j.val,none⟩) (min 16 (len-16*j.val)) (min 16 (len-16*j.val))]
theorem IR (n:Nat)(hn:1<=n)(b off len c:Nat)(hl:len<=1000000)(hlc:len<=c)(hc:c<=maxLen)(B0 B1 B2:Nat)(w:World)(h0:B0<=w.heap.size)
 (b1:Blk w B1 23 #[.slice (some ⟨b,off,none⟩) len c]) (b2:Blk w B2 3 #[.int .i64 16]):
 SeqC 0 Fence.wide n Tryz.prog 191 #[.pointer (some ⟨B1,0,none⟩),.pointer (some ⟨B2,0,none⟩)] (chEnc b off len) (KeepB B0 [B1,B2])
  (fun ys=>ys.map (·.val)=List.range ((len+15)/16)) (fun pre=>∃m,m<(len+15)/16/\pre.map (·.val)=List.range (m+1)) ((len+15)/16) w:=by
 intro l J Jx W hW hJ hJx hY h0J;have HY:=hid hY;have kW:KeepB B0 [B1,B2] w W:=KeepB.later hW h0 (fun g hg=>by
  simp only[List.mem_cons,List.not_mem_nil,or_false]at hg
  rcases hg with rfl|rfl
  · exact b1.lt
  · exact b2.lt)
 have in1:B1∈[B1,B2]:=by simp
 have in2:B2∈[B1,B2]:=by simp
 have k1:=blk1 (b1.at_ (kW.at_ _ in1));have k2:=blk1 (b2.at_ (kW.at_ _ in2));have hm:=hc;unfold maxLen at hm;clear hY;refine callsIn_of_wp Tryz.func191 rfl trivial ?_ rfl;simp only[Tryz.ntmps191,Nat.reduceAdd,Nat.reduceSub,Yn]
 gi_wp2
 gi_loopw [4] (fun x V=>∃m:Nat,m<=(len+15)/16/\x=.int .i64 ((16*m:Nat):Int)/\(∃pre,pre.length=m/\Hid (pre.map (·.val)=List.range m)/\J pre V)/\KeepB B0 [B1,B2] w V/\Hid (W.heap.size<=V.heap.size)) (fun x _=>len+16-(intOf x).toNat)
 case atStart=>exact⟨0,Nat.zero_le _,rfl,⟨[],rfl,hid rfl,h0J⟩,kW,hid (Nat.le_refl _)⟩
 case round=>
  obtain⟨m,hm2,rfl,⟨pre,hpl,hpm,hJm⟩,hk,hsz⟩:=hrel;have Hpl:=hid hpl;clear k1 k2 h0J kW hpl;have k1:=blk1 (b1.at_ (hk.at_ _ in1));have k2:=blk1 (b2.at_ (hk.at_ _ in2));by_cases hlt:16*m<len
  · have hmk:m<(len+15)/16:=by omega
    have hdr:Below wr.heap.size wr wr.drew:=(Below.refl _ _).drew;have hkd:KeepB B0 [B1,B2] wr wr.drew:=⟨hdr.mono (Nat.le_trans h0 hk.below.size),fun g hg=>rfl⟩;obtain⟨fn,tmps,assign,body,hy,hR⟩:=HY.out pre ⟨m,hmk⟩ wr.drew (OwnFrom.later hJ hJm hdr) (by rw[Hpl.out];exact hmk) hsz.out;have Hz:=hid (show(pre++[(⟨m,hmk⟩:Fin ((len+15)/16))]).map (·.val)=List.range (m+1) by
     rw[List.map_append,hpm.out,List.range_succ];rfl)
    simp only[chEnc]at hy;clear hJm;obtain⟨r,hr⟩:∃r,len=16*m+r:=⟨len-16*m,by omega⟩;subst hr;rw[show min 16 (16*m+r-16*m)=(16*(m:Int)+min 16 (r:Int)).toNat-16*m by omega]at hy
    gi_wp2
    gi_region
    gi_wp2
    refine hR.mono ?_;rintro e W3 (⟨rfl,hJ3,hkf,_,hk3⟩|⟨rfl,hJx3,_⟩)
    · have HJ3:=hid hJ3;have k4:=blk1 (b2.at_ (((hk.trans hkd).trans hk3).at_ _ in2));clear hJ3 k1 k2
      gi_wp2
      go_roundw
      case rel=>exact⟨m+1,by omega,by go_num,⟨_,by rw[List.length_append,Hpl.out];rfl,Hz,HJ3.out⟩,(hk.trans hkd).trans hk3,hid (Nat.le_trans hsz.out hkf.size)⟩
      case measure=>simp[intOf];omega
    · gi_wp2
      refine bodyPost_ret (results_none rfl _ _ _) rfl ?_;exact⟨⟨_,rfl⟩,.inr ⟨_,⟨m,hmk,Hz.out⟩,hJx3⟩⟩
  · have hmk:m=(len+15)/16:=by omega
    have Hm:=hid hmk;clear hmk
    gi_wp2
    go_end0
    exact⟨⟨_,rfl⟩,.inl ⟨pre,by rw[hpm.out,Hm.out],hJm⟩⟩
end
section
open Go.RowKit Go.Shelf
theorem Tryz.bldInfo:(Tryz.prog.info? 195).map (·.size)=some 2:=by kernel_rfl
theorem Tryz.bldLies:liesAt Tryz.prog Tryz.prog.depth 195 (2/Tryz.prog.cellsOf 195) 0 195 1=true:=by kernel_rfl
theorem I8 (b:Nat)(w:World)(h0:w.cell? ⟨b,0,none⟩=some (.pointer (some ⟨b,0,none⟩))):
 Calls Tryz.prog 163 #[.pointer (some ⟨b,0,none⟩)] w fun e w'=>e=.returned (.tuple #[])/\w'=w:=by
 obtain⟨j,hj,_⟩:=Option.map_eq_some_iff.1 Tryz.bldInfo;go_enter Tryz.func163,Tryz.ntmps163
 go_wp2
 rw[Lib.run_neq_ptr_same w _ Tryz.underlying193 hj]
 go_wp2
 go_end0
 exact⟨rfl,rfl⟩
theorem I7 (b:Nat)(w:World)(h0:w.cell? ⟨b,0,none⟩=some (.pointer none))(hsh:w.shape? b=some (195,2))(hfz:w.frozen? ⟨b,0,none⟩=false):
 Calls Tryz.prog 163 #[.pointer (some ⟨b,0,none⟩)] w fun e w'=>e=.returned (.tuple #[])/\w'=w.setCell ⟨b,0,none⟩ (.pointer (some ⟨b,0,none⟩)):=by
 obtain⟨j,hj,hjs⟩:=Option.map_eq_some_iff.1 Tryz.bldInfo;go_enter Tryz.func163,Tryz.ntmps163
 go_wp2
 rw[Lib.run_to_unsafe w ⟨b,0,none⟩ Tryz.underlying193 Tryz.underlying251 hj (by rw[hjs];decide) hsh (Nat.zero_lt_succ 1)];simp only[Result.andThen];rw[Oper.upon_value]
 go_wp2
 rw[run_callFunc_extern Tryz.func182 (by kernel_rfl) (by kernel_rfl) (by kernel_rfl) (e:=Extern.AbiNoEscape.same) (by kernel_rfl)];rw[Lib.run_noEscape];simp only[Result.andThen];rw[Oper.upon_value]
 go_wp2
 rw[Lib.run_from_unsafe w ⟨b,0,none⟩ Tryz.underlying251 Tryz.underlying193 hj hsh Tryz.bldLies];simp only[Result.andThen];rw[Oper.upon_value]
 go_wp2
 go_end0
 exact⟨rfl,rfl⟩
theorem I6 (B b:Nat)(l:List Value)(w:World)(h:Lib.IsBuilder 195 5 B b l w):
 Calls Tryz.prog 163 #[.pointer (some ⟨b,0,none⟩)] w fun e w'=>e=.returned (.tuple #[])/\(Lib.BuilderAt 195 5 B b (.pointer (some ⟨b,0,none⟩)) l w'/\Below B w w'):=by
 rcases h with h|h
 · refine(I7 b w h.cell0 h.shape h.frozen0).mono ?_;rintro e w' ⟨rfl,rfl⟩;exact⟨rfl,h.used _,(Below.refl B w).setCell (p:=⟨b,0,none⟩) h.1 _⟩
 · refine(I8 b w h.cell0).mono ?_;rintro e w' ⟨rfl,rfl⟩;exact⟨rfl,h,Below.refl B _⟩
theorem Iw (B b:Nat)(l:List UInt8)(s:List UInt8)(w:World)(h:Lib.IsBuilder 195 5 B b (Lib.byteCells l) w)(hlen:l.length+s.length<=140737488355328)(hBw:B<=w.heap.size):
 Calls Tryz.prog 135 #[.pointer (some ⟨b,0,none⟩),.string (bs s)] w fun e w'=>e=.returned (.tuple #[.int .i64 s.length,.nilIface])/\Lib.IsBuilder 195 5 B b (Lib.byteCells (l++s)) w'/\Below B w w':=by
 obtain⟨i0,hi,hz0,hz1,hz2⟩:=info_parts Tryz.infoByte;have hbl:(Lib.byteCells l).length=l.length:=Lib.byteCells_length l;go_enter Tryz.func135,Tryz.ntmps135;go_wp2_with fail
 go_at_call 163;refine(I6 B b (Lib.byteCells l) w h).mono ?_;rintro e w1 ⟨rfl,⟨hB,v,hbk,hown,hne⟩,hb1⟩;have c0:w1.cell? ⟨b,0,none⟩=some (.pointer (some ⟨b,0,none⟩)):=by rw[Lib.cell_of_heap hbk];rfl
 have c1:w1.cell? ⟨b,1,none⟩=some v:=by rw[Lib.cell_of_heap hbk];rfl
 go_wp2_with (at_builtin;refine Lib.wpList_append_own_string _ rfl _ _ 139 9 rfl B 5 i0 Tryz.underlying139 Tryz.underlying9 hi hz0 hz1 hz2 _ _ _ rfl hown (bs s) rfl ?c3 ?c4 ?c5 ?_)
 case c3=>rw[Ac,hbl];unfold maxLen;omega
 case c4=>rw[Ac,hbl];omega
 case c5=>have:=hb1.size;omega
 intro v' w2 hown' hgrow _;have hlt:b<w1.heap.size:=Blk.lt (t:=195) hbk;have hb2:Blk w2 b 195 #[.pointer (some ⟨b,0,none⟩),v]:=(hgrow.block b hlt (fun e=>hne e.symm)).trans hbk;have d:=blk2 hb2;have f:=hb2.fz;obtain⟨ao,n',cap,rfl⟩:∃ao n' cap,v'=.slice ao n' cap:=by
  rcases hown'.2 with ⟨hv,_⟩|⟨g,cap,cur,hv,_⟩
  · exact⟨_,_,_,hv⟩
  · exact⟨_,_,_,hv⟩
 go_wp2_with fail
 go_ret2
 rw[Ac];refine⟨rfl,.inr ?_,(hb1.grown hgrow (by have:=hb1.size;omega) (fun k hk=>(hown.lt k hk).1)).setCell (p:=⟨b,1,none⟩) hB _⟩;have h1:=Lib.BuilderAt.put (T:=195) (e:=5) hB hb2 (bs':=Lib.byteCells l++Lib.strCells (bs s)) (v':=.slice ao n' cap) (by rw[List.length_append,Lib.strCells_length,hbl];exact hown') (by decide);rw[Lib.strCells_eq,AY,<-Lib.byteCells_append]at h1;exact h1
attribute [local go_sem] Ad Ag Ah Ac Aj Ai Oper.semAt_some
theorem FJ {l:List Int}(h1:1<=l.length)(h:l.length<=24):(idxRows l).length=(l.length+15)/16:=by
 unfold idxRows
 split
 · rw[List.length_singleton];omega
 · simp only[List.length_cons,List.length_nil];omega
theorem KI {l:List Int}(h1:1<=l.length)(h:l.length<=24){j:Nat}(hj:j<(idxRows l).length):(idxRows l)[j]=Au (nums ((l.drop (16*j)).take 16)):=by
 have hc:=FJ h1 h
 rcases Nat.lt_or_ge 16 l.length with h16|h16
 · have e:idxRows l=[Au (nums (l.take 16)),Au (nums (l.drop 16))]:=by unfold idxRows;rw[if_neg (by omega)]
   have:j=0\/j=1:=by omega
   rcases this with rfl|rfl
   · simp only[e,List.getElem_cons_zero,Nat.mul_zero,List.drop_zero]
   · simp only[e,List.getElem_cons_succ,List.getElem_cons_zero];rw[List.take_of_length_le (by simp;omega)]
 · have e:idxRows l=[Au (nums l)]:=by unfold idxRows;rw[if_pos h16]
   obtain rfl:j=0:=by omega
   simp only[e,List.getElem_cons_zero,Nat.mul_zero,List.drop_zero];rw[List.take_of_length_le h16]
def rowEnc (R:List (List UInt8))(i:Fin R.length):Array Value:=#[.string (bs R[i.val])]
theorem LH (l:List Int)(x:Int):nums (l++[x])=nums l++be 4 x.toNat:=by simp[nums]
theorem In (n:Nat)(L:Pn)(p' q':Pl)(w:World):
 CallsIn Fence.wide n Tryz.prog 148 #[pval L p' q'] w fun e w'=>e=.returned (.func (.func 176) #[] #[.pointer (some ⟨w.heap.size,0,none⟩)])/\
  w'=w.alloc (.cells #[.slice p'.a L.targets.length p'.c,.slice q'.a L.data.length q'.c] 63):=by
 refine callsIn_of_wp Tryz.func148 rfl trivial ?_ rfl;simp only[Tryz.ntmps148,Nat.reduceAdd,Nat.reduceSub,Yn]
 gi_wp2
 go_ret
 exact⟨rfl,rfl⟩
theorem IQ (n:Nat)(a:Option Addr)(len cap:Nat)(w:World):
 CallsIn Fence.wide n Tryz.prog 177 #[.slice a len cap,.int .i64 16] w fun e w'=>e=.returned (.func (.func 191) #[] #[.pointer (some ⟨w.heap.size,0,none⟩),.pointer (some ⟨w.heap.size+1,0,none⟩)])/\
  w'=(w.alloc (.cells #[.slice a len cap] 23)).alloc (.cells #[.int .i64 16] 3):=by
 have x1:=blk1 (DC w (.cells #[.slice a len cap] 23) 3 #[.int .i64 16]);refine callsIn_of_wp Tryz.func177 rfl trivial ?_ rfl;simp only[Tryz.ntmps177,Nat.reduceAdd,Nat.reduceSub,Yn]
 gi_wp2
 go_ret
 exact⟨rfl,rfl⟩
theorem LY {R:List (List UInt8)}{K:Nat}(emb:Fin K->Fin R.length)(hemb:∀y,(emb y).val=y.val)(hK:K<=R.length)(ys:List (Fin K))(k:Nat)(hk:k<=K)(h:ys.map (·.val)=List.range k):picked R (ys.map emb)=R.take k:=by
 have e:picked R (ys.map emb)=(ys.map (·.val)).map (fun i=>R.getD i []):=by
  unfold picked;rw[List.map_map,List.map_map];refine List.map_congr_left fun y _=>?_
  show R[(emb y).val]=R.getD y.val [];have hl:=y.isLt;rw[List.getD_eq_getElem?_getD,List.getElem?_eq_getElem (by omega),Option.getD_some];exact getElem_congr_idx (hemb y)
 rw[e,h];apply List.ext_getElem (by simp;omega)
 intro i h1 h2;simp only[List.length_map,List.length_range]at h1;rw[List.getElem_map,List.getElem_range,List.getElem_take,List.getD_eq_getElem?_getD,List.getElem?_eq_getElem (by omega),Option.getD_some]
theorem FL {T e:TypeId}{B b:Nat}{cs:List Value}{w w':World}(h:Lib.IsBuilder T e B b cs w)(hb:Below w.heap.size w w'):Lib.IsBuilder T e B b cs w':=by
 have key:∀p,Lib.BuilderAt T e B b p cs w->Lib.BuilderAt T e B b p cs w':=by
  rintro p ⟨hB,v,h1,h2,h3⟩;have hl:=(Array.getElem?_eq_some_iff.1 h1).1;refine⟨hB,v,(hb.block b hl).trans h1,?_,h3⟩;exact h2.kept (row:=none) ⟨hb.os,hb.tape,hb.output,hb.size,fun k hk _=>hb.block k hk⟩ (by cases hv:v.ownBlock with|none=>exact .inl rfl|some x=>exact .inr (by simp))
 exact h.elim (fun x=>.inl (key _ x)) (fun x=>.inr (key _ x))
theorem NG {F:Fence}(hr:∀k,F.room k){n m:Nat}{P:Program}{l:Nat}{f:FuncId}{tmps:Array Value}{assign body:Code}{w:World}{R:Ending->World->Prop}
 (h:RoundIn F n P l f tmps assign body w R):RoundIn F m P l f tmps assign body w R:=⟨h.1,fun c cs _=>h.2 c cs (hr _)⟩
theorem Il {B0 Bp:Nat}{w V W3 V':World}{S V0s:Nat}(hS:B0<=S)(h0':S+1+1<V0s)(hs:V0s<=V.heap.size)(hBp:Bp<S)(hk:KeepB B0 [Bp] w V)(hc3:Below V.heap.size V W3)(hkf:KeepsFrom S W3 V')(hst:StaysC S 3 W3 V')(hk3:KeepB B0 [Bp] W3 V'):
 KeepsFrom V0s V V'/\(StaysC (V0s+2) 0 V V'/\KeepB B0 [S+1,S+1+1] V V')/\KeepB B0 [Bp] w V'/\V0s<=V'.heap.size/\V'.heap[S]? =V.heap[S]? :=by
 have h3:=hc3.size;have key:∀g,S<=g->g<S+3->V'.heap[g]? =V.heap[g]? :=fun g h1 h2=>(hst.2 g h1 h2 (by omega)).trans (hc3.block g (by omega))
 refine⟨(BS hc3).trans (By hkf (by omega)),⟨StaysC.zero (Nat.le_trans h3 hst.1),⟨(hc3.mono (by omega)).trans hk3.below,fun g hg=>?_⟩⟩,?_,Nat.le_trans (Nat.le_trans hs h3) hst.1,key _ (Nat.le_refl _) (by omega)⟩
 · simp only[List.mem_cons,List.not_mem_nil,or_false]at hg;exact key g (by omega) (by omega)
 · refine hk.trans (KeepB.trans ⟨hc3.mono (by omega),fun g hg=>?_⟩ hk3);obtain rfl:g=Bp:=by simpa using hg
   exact hc3.block g (by omega)
theorem IH {e:Ending}{A B:Prop}(h:(e=.returned (.bool true)/\A)\/(e=.returned (.bool false)/\B)):∃b,e=.returned (.bool b)/\((b=true/\A)\/(b=false/\B)):=by
 rcases h with ⟨h,a⟩|⟨h,a⟩
 · exact⟨true,h,.inl ⟨rfl,a⟩⟩
 · exact⟨false,h,.inr ⟨rfl,a⟩⟩
theorem Lc {B B' Bp:Nat}{w0 X Y:World}{row:Option Nat}(hB:B<=B')(hbs:∀g∈[Bp],g<B')(hsz:Bp<w0.heap.size)(hw:B<=w0.heap.size)(hs:KeepB B [Bp] w0 X)(hy:X.grownBy Y row)(hr:∀r,row=some r->B'<=r/\∃o:Obj,X.heap[r]? =some o/\o.isCells=false):KeepB B [Bp] w0 Y:=by
 have h2:=hs.below.size;have hp:=hbs Bp (by simp);refine hs.trans ⟨⟨hy.os,hy.tape,hy.output,hy.size,fun k hk=>hy.block k (by omega) (fun e=>by have:=(hr k e.symm).1;omega)⟩,fun g hg=>?_⟩;obtain rfl:g=Bp:=by simpa using hg
 exact hy.block g (by omega) (fun e=>by have:=(hr g e.symm).1;omega)
def behAct (l Bp Y:Nat)(b off lt ct:Nat)(y:Fin ((lt+15)/16)):Act:=
 {tmps:=#[.func (.yield l) #[] #[],.pointer (some ⟨Bp,0,none⟩),.pointer (some ⟨Y,0,none⟩),.slice (some ⟨b,off+16*y.val,none⟩) (min 16 (lt-16*y.val)) (min 16 (lt-16*y.val)),undef,undef,undef,undef,undef,
  .pointer (some ⟨Bp,0,none⟩),.slice (some ⟨b,off,none⟩) lt ct,.func (.func 191) #[] #[.pointer (some ⟨Y+1,0,none⟩),.pointer (some ⟨Y+1+1,0,none⟩)],
  .slice (some ⟨b,off+16*y.val,none⟩) (min 16 (lt-16*y.val)) (min 16 (lt-16*y.val)),
  undef,undef,undef,undef,undef,undef,undef,undef,undef,undef,undef,undef,undef,undef,undef,undef,undef,undef,undef,undef,undef,undef,undef,undef,undef,undef,undef],defers:=[]}
theorem Io (n:Nat)(hn:3<=n)(L:Pn)(p' q':Pl)(ht1:1<=L.targets.length)(ht:L.targets.length<=24)(hd:L.data.length<=1000000)(hok:∀x∈L.targets,sectorOk x=true)(R:List (List UInt8))(hR:idxRows L.targets++L.data=R)(B0 Bp:Nat)(w:World)(h0:B0<=w.heap.size)
 (hLW:∀W,Below B0 w W->IsPn W L p' q') (bp:Blk w Bp 63 #[.slice p'.a L.targets.length p'.c,.slice q'.a L.data.length q'.c]):
 SeqC 3 Fence.wide n Tryz.prog 176 #[.pointer (some ⟨Bp,0,none⟩)] (rowEnc R) (KeepB B0 [Bp])
  (fun ys=>picked R ys=R) (fun pre=>∃m,m<R.length/\picked R pre=R.take (m+1)) R.length w:=by
 intro l J Jx W hW hJ hJx hY h0J;have h1:1<=n:=by omega
 have HY:=hid hY;clear hY;have hK:=FJ ht1 ht;have kW:KeepB B0 [Bp] w W:=KeepB.later hW h0 (fun g hg=>by
  simp only[List.mem_cons,List.not_mem_nil,or_false]at hg
  rcases hg with rfl
  exact bp.lt)
 obtain⟨B1,b1⟩:=p';obtain⟨B2,b2⟩:=q';obtain⟨tb,tt,te,-⟩:=(hLW W kW.below).targets.int (i:=0) (by omega);have te:B1=some ⟨tb,tt,none⟩:=te;subst te;have in1:Bp∈[Bp]:=by simp
 have hpc:L.targets.length<=b1:=(hLW W kW.below).pc;have hpm:b1<=maxLen:=(hLW W kW.below).pm;have bW:=(bp.at_ (kW.at_ _ in1));have hBpW:=bW.lt;have x0:=blk2 (bW.alloc (.cells #[.func (.yield l) #[] #[]] 65));have ya:=Blk.new W 65 #[.func (.yield l) #[] #[]];refine callsIn_of_wp_marks Tryz.func176 rfl trivial ?_ rfl;simp only[Tryz.ntmps176,Nat.reduceAdd,Nat.reduceSub,Yn]
 gi_wp2_with fail
 refine⟨trivial,(IQ _ _ _ _ _).mono ?_⟩;rintro e w' ⟨rfl,rfl⟩;have yv:=(ya.alloc (.cells #[.slice (some ⟨tb,tt,none⟩) L.targets.length b1] 23)).alloc (.cells #[.int .i64 16] 3);have bx1:=(DC W (.cells #[.func (.yield l) #[] #[]] 65) 23 #[.slice (some ⟨tb,tt,none⟩) L.targets.length b1]).alloc (.cells #[.int .i64 16] 3);have bx2:=Blk.new ((W.alloc (.cells #[.func (.yield l) #[] #[]] 65)).alloc (.cells #[.slice (some ⟨tb,tt,none⟩) L.targets.length b1] 23)) 3 #[.int .i64 16];simp only[Ys]at bx2;have bV:=(((Yz (W:=W) (.cells #[.func (.yield l) #[] #[]] 65)).alloc (by simp) (.cells #[.slice (some ⟨tb,tt,none⟩) L.targets.length b1] 23)).alloc (by simp;omega) (.cells #[.int .i64 16] 3))
 gi_wp2_with fail
 have h0V:=OwnFrom.later hJ h0J bV;have kV:KeepB B0 [Bp] w (((W.alloc (.cells #[.func (.yield l) #[] #[]] 65)).alloc (.cells #[.slice (some ⟨tb,tt,none⟩) L.targets.length b1] 23)).alloc (.cells #[.int .i64 16] 3)):=
  kW.trans (KeepB.later bV (Nat.le_trans h0 hW.size) (fun g hg=>by
   simp only[List.mem_cons,List.not_mem_nil,or_false]at hg
   rcases hg with rfl
   exact hBpW))
 have hBsz:B0<=W.heap.size:=Nat.le_trans h0 hW.size;generalize ((W.alloc (.cells #[.func (.yield l) #[] #[]] 65)).alloc (.cells #[.slice (some ⟨tb,tt,none⟩) L.targets.length b1] 23)).alloc (.cells #[.int .i64 16] 3)=V0 at*;have hVs:=bx2.lt;have HR:=hid hR;have hRl:R.length=(L.targets.length+15)/16+L.data.length:=by rw[<-hR,List.length_append,hK]
 have hRg:∀(y:Fin ((L.targets.length+15)/16))(hy:y.val<R.length),R[y.val]=Au (nums ((L.targets.drop (16*y.val)).take 16)):=fun y hy=>by
  have h:=KI ht1 ht (j:=y.val) (by rw[hK];exact y.isLt);rw[<-h];subst hR;rw[List.getElem_append_left]
 have hRd:∀m (hm:m<L.data.length)(hy:(L.targets.length+15)/16+m<R.length),R[(L.targets.length+15)/16+m]=L.data[m]:=fun m hm hy=>by
  subst hR;rw[List.getElem_append_right (by omega)]
  congr 1;omega
 let emb:Fin ((L.targets.length+15)/16)->Fin R.length:=fun y=>⟨y.val,by omega⟩
 have hemb:∀y,(emb y).val=y.val:=fun _=>rfl
 have hpick:=fun ys k hk h=>LY (R:=R) (K:=(L.targets.length+15)/16) emb hemb (by omega) ys k hk h
 clear_value emb
 refine Ep rfl h1 (gf:=191) (lb:=#[.pointer (some ⟨W.heap.size+1,0,none⟩),.pointer (some ⟨W.heap.size+1+1,0,none⟩)]) rfl trivial (enters_of Tryz.func191 (by kernel_rfl) rfl)
  (IR (n-1) (by omega) tb tt L.targets.length b1 (by omega) hpc hpm B0 (W.heap.size+1) (W.heap.size+1+1) V0 (by omega) bx1 bx2)
  KeepB.trans (fun W' l o o' q1 q2 q3 q4=>KeepB.putObj o' (by omega) (fun g hg=>by
   simp only[List.mem_cons,List.not_mem_nil,or_false]at hg;omega)) (Below.refl _ _) (fun _=>rfl)
  (fun pre V=>J (pre.map emb) V/\Blk V W.heap.size 65 #[.func (.yield l) #[] #[]]/\KeepB B0 [Bp] w V/\V0.heap.size<=V.heap.size)
  (fun c pre V=>c=.ret/\Jx (pre.map emb) V)
  ?hI ?hIx ⟨h0V,yv,kV,Nat.le_refl _⟩
  (fun y a' V=>a'=behAct l Bp W.heap.size tb tt L.targets.length b1 y)
  (fun _ _ _ _ _ _ hs _ _=>hs) ?assign ?body ?done ?stop
 case hI=>
  rintro pre X Y row ⟨h1,h2,h3,h4⟩ hy hr;exact⟨hJ _ X Y row h1 hy (fun r e=>⟨by have:=(hr r e).1;omega,(hr r e).2⟩),(Own.from (AA _ _ (fun _:Unit=>_)) _) () X Y row h2 hy hr,
   Lc (B':=V0.heap.size) (by omega) (fun g hg=>by simp only[List.mem_cons,List.not_mem_nil,or_false]at hg;omega) bp.lt h0 h3 hy hr,Nat.le_trans h4 hy.size⟩
 case hIx=>
  rintro c pre X Y row ⟨h0,h1⟩ hy hr;exact⟨h0,hJx _ X Y row h1 hy (fun r e=>⟨by have:=(hr r e).1;omega,(hr r e).2⟩)⟩
 case assign=>
  rintro l' pre y V K hI hK
  dsimp only[chEnc]
  gi_wp2
  exact hK _ _ (KeepsFrom.refl _ _) (StaysC.refl _ _ _) (KeepB.refl _ _ _) hI rfl
 case body=>
  rintro l' pre y a' V ⟨hj,hb1,hk,hs⟩ rfl hpl hVz;have hyl:=y.isLt;have h2:1<=n-1-1:=by omega
  have hy2:y.val<R.length:=by omega
  obtain⟨ch,hchl,hRy,hcell⟩:∃ch:List Int,ch.length=min 16 (L.targets.length-16*y.val)/\R[y.val]=Au (nums ch)/\∀k (hk':k<ch.length),V.cell? ⟨tb,tt+16*y.val+k,none⟩=some (.int .i64 ch[k])/\sectorOk ch[k]=true:=by
   refine⟨(L.targets.drop (16*y.val)).take 16,by rw[List.length_take,List.length_drop],hRg y hy2,fun k hk'=>?_⟩;rw[List.length_take,List.length_drop]at hk';obtain⟨b',o',e',ct⟩:=(hLW V hk.below).targets.int (i:=0) (by omega);have e':(some ⟨tb,tt,none⟩:Option Addr)=some ⟨b',o',none⟩:=e';obtain⟨rfl,rfl⟩:tb=b'/\tt=o':=by injection e' with e';injection e' with e1 e2;exact⟨e1,e2⟩
   have hi:16*y.val+k<L.targets.length:=by omega
   have:=ct (16*y.val+k) hi;have e:((L.targets.drop (16*y.val)).take 16)[k]'(by rw[List.length_take,List.length_drop];exact hk')=L.targets[16*y.val+k]:=by rw[List.getElem_take,List.getElem_drop]
   rw[e,Nat.add_assoc];exact⟨this,hok _ (List.getElem_mem hi)⟩
  have hRe:=hid (show R[(emb y).val]=Au (nums ch)from(getElem_congr_idx (hemb y)).trans hRy);have hpl2:(pre.map emb).length<R.length:=by rw[List.length_map];omega
  clear hRy;unfold behAct;rw[<-hchl];have hq16:ch.length<=16:=by rw[hchl];omega
  generalize 16*y.val=ofs at*;clear hchl hRg;have hbl:=Lib.fresh_isBuilder 195 5 V;have hbV:=Yz (W:=V) (.cells #[.pointer none,.slice none 0 0] 195);have Hz:=hid (hpick (pre++[y]))
  gi_wp2_with fail
  generalize V.alloc (.cells #[.pointer none,.slice none 0 0] 195)=V1 at*
  gi_loopw [15] (fun x V'=>∃k:Nat,k<=ch.length/\x=.int .i64 k/\Hid (Lib.IsBuilder 195 5 V.heap.size V.heap.size (Lib.byteCells (nums (ch.take k))) V')/\Hid (Below V.heap.size V V')) (fun x _=>ch.length-(intOf x).toNat)
  case atStart=>exact⟨0,Nat.zero_le _,rfl,hid hbl,hid hbV⟩
  case round=>
   obtain⟨k,hk2,rfl,hB1,hbV1⟩:=hrel;by_cases hlt:k<ch.length
   · obtain⟨cc,hok2⟩:=hcell k hlt;have cc:=Av hbV1.out cc;have hx0:0<=ch[k]/\ch[k]<1024:=by simpa[sectorOk]using hok2
     have hnx:=hid (LH (ch.take k) ch[k]);have htk:=hid (List.take_succ_eq_append_getElem hlt);generalize ch[k]=x at*;obtain⟨x,rfl⟩:=Int.eq_ofNat_of_zero_le hx0.1;have hnum:∀W,Calls Tryz.prog 146 #[.int .i64 x,.int .i64 4] W fun e w'=>e=.returned (.string (bs (be 4 x)))/\Below W.heap.size W w':=fun W=>EC x (by omega) 4 (by omega) (by omega) W
     have hlen:(nums (ch.take k)).length<=64:=by rw[Bz,List.length_take];omega
     clear hok2 hcell
     gi_wp2_with fail
     refine⟨trivial,(CallsIn.inRound l' (callsIn_wide.2 (hnum _))).mono ?_⟩;rintro e W2 ⟨rfl,hb2⟩;have hB2:Lib.IsBuilder 195 5 V.heap.size V.heap.size (Lib.byteCells (nums (ch.take k))) W2:=FL hB1.out hb2
     gi_wp2_with fail
     refine⟨trivial,(CallsIn.inRound l' (callsIn_wide.2 (Iw _ _ _ _ _ hB2 (by rw[Aq];omega) (Nat.le_trans hbV1.out.size hb2.size)))).mono ?_⟩;rintro e W3 ⟨rfl,hB3,hb3⟩
     gi_wp2
     go_roundw
     case rel=>exact⟨k+1,by omega,by go_num,hid (by rw[htk.out,hnx.out];exact hB3),hid ((hbV1.out.trans (hb2.mono hbV1.out.size)).trans hb3)⟩
     case measure=>simp[intOf];omega
   · obtain rfl:k=ch.length:=by omega
     have hB9:=hB1.out;rw[List.take_length]at hB9;have hB9:Lib.IsBuilder 195 5 V.heap.size V.heap.size (Lib.byteCells (nums ch)) wr.drew:=FL hB9 (Below.refl _ _).drew;have hb9:Below V.heap.size V wr.drew:=hbV1.out.trans (((Below.refl _ _).drew:Below wr.heap.size wr wr.drew).mono hbV1.out.size);have hl64:(nums ch).length<=64:=by rw[Bz];omega
     have yb:=hb1.below hb9 hb1.lt;have yb1:=blk1 yb;have hmx:Tryz.prog.follows .mixedOrders=true:=by kernel_rfl
     have hst:=Tryz.Builder_String_any V.heap.size V.heap.size (nums ch) wr.drew hB9 hb9.size;have hpd:=fun W=>HX (nums ch) hl64 W
     clear hB1 hbV1 hB9 hcell hbl hbV;have hyA:∀W3,Below V.heap.size V W3->∃fn tmps assign body,(Instr.yield l #[.string (bs (Au (nums ch)))]).run Tryz.prog W3=.ok (.round l fn tmps assign body) W3/\RoundIn (Fence.wide.inRound l') (n-1-1-1) Tryz.prog l fn tmps assign body W3 (fun e V'=>∃b,e=.returned (.bool b)/\((b=true/\J (pre.map emb++[emb y]) V'/\KeepsFrom W.heap.size W3 V'/\StaysC W.heap.size 3 W3 V'/\KeepB B0 [Bp] W3 V')\/(b=false/\Jx (pre.map emb++[emb y]) V'/\KeepsFrom W.heap.size W3 V'))):=fun W3 hb3=>by
      obtain⟨fn,tmps,assign,body,hy,hR⟩:=HY.out (pre.map emb) (emb y) W3 (OwnFrom.later hJ hj hb3) hpl2 (by have:=hb3.size;omega);simp only[rowEnc,hRe.out]at hy;exact⟨fn,tmps,assign,body,hy,RoundIn.mono (NG (F:=Fence.wide) (fun k d hd=>by cases hd) hR) fun e V' h=>IH h⟩
     generalize hVd:wr.drew=Vd at*
     gi_wp2_with fail
     gi_region_with_o (first
      |(refine⟨trivial,(CallsIn.inRound l' (callsIn_wide.2 hst)).mono ?_⟩;rintro e W2 ⟨rfl,hb2⟩;have yb2:=blk1 (yb.below hb2 hb1.lt);have hc2:=hb9.trans hb2)
      |(refine⟨trivial,(CallsIn.inRound l' (callsIn_wide.2 (hpd _))).mono ?_⟩;rintro e W3 ⟨rfl,hb3⟩;have hc3:=hc2.trans (hb3.mono hc2.size);have yb3:=blk1 (hb1.below hc3 hb1.lt);obtain⟨fn,tmps,assign,body,hy,hRR⟩:=hyA W3 hc3)
      |(refine RoundIn.mono hRR ?_;rintro e V' ⟨b,rfl,hpost⟩))
     all_goals
      clear hyA hst hpd hRR hy
      rcases hpost with ⟨rfl,hJ3,hkf,hst,hk3⟩|⟨rfl,hJx3,hkf⟩
      · gi_wp2
        obtain⟨m1,m2,m3,m4,m5⟩:=Il (S:=W.heap.size) (V0s:=V0.heap.size) hBsz hVs hs hBpW hk hc3 hkf hst hk3;exact⟨m1,m2,by rw[List.map_append];exact hJ3,hb1.at_ m5,m3,m4⟩
      · gi_wp2
        exact⟨(BS hc3).trans (By hkf (by omega)),rfl,by rw[List.map_append];exact hJx3⟩
 case done=>
  rintro Dd ys V hDd hS ⟨hj,hb1,hk,hs⟩ hK;have HpR:=hid (hpick ys _ (Nat.le_refl _) hS);have hlp:(ys.map emb).length=(L.targets.length+15)/16:=by
   rw[List.length_map];have:=congrArg List.length hS;simpa using this
  generalize ys.map emb=zs at*;have x0:=blk2 (bp.at_ (hk.at_ _ in1));have hqm:b2<=maxLen:=(hLW W kW.below).qm;unfold maxLen at hqm;have h2:1<=n-1:=by omega
  clear hS hpick hRg bx1 bx2 h0V yv kV
  gi_wp2
  gi_loopw [31] (fun x V'=>∃m:Nat,m<=L.data.length/\x=.int .i64 m/\(∃pr,pr.length=(L.targets.length+15)/16+m/\Hid (picked R pr=R.take ((L.targets.length+15)/16+m))/\J pr V')/\Blk V' W.heap.size 65 #[.func (.yield l) #[] #[]]/\KeepB B0 [Bp] w V'/\V'.heap[Dd]? =some (.deferred (some []))/\Hid (V0.heap.size<=V'.heap.size)) (fun x _=>L.data.length-(intOf x).toNat)
  case atStart=>exact⟨0,Nat.zero_le _,rfl,⟨zs,hlp,HpR,hj⟩,hb1,hk,hK,hid hs⟩
  case round=>
   obtain⟨m,hm,rfl,⟨pr,hpl,hpm,hJm⟩,hb2,hk2,hK2,hsz⟩:=hrel;have Hpl:=hid hpl;clear hpl x0 hj hb1 hk hK HpR hlp;by_cases hlt:m<L.data.length
   · have hP:=hLW wr hk2.below;obtain⟨c2,o2,e2,cs⟩:=hP.data.str hlt;have e2':B2=some ⟨c2,o2,none⟩:=e2;subst e2';have cs:=cs m hlt;have hz:(L.targets.length+15)/16+m<R.length:=by omega
     have Hze:=hid (hRd m hlt hz);have Hz:=hid (Gk R pr _ hz hpm.out);have yb:=blk1 hb2;obtain⟨fn,tmps,assign,body,hy,hR⟩:=HY.out pr ⟨_,hz⟩ wr hJm (by rw[Hpl.out];exact hz) (by have:=hsz.out;omega);simp only[rowEnc,Hze.out]at hy;clear hP e2 hJm
     gi_wp2
     refine hR.mono ?_;rintro e W3 (⟨rfl,hJ3,hkf,hst,hk3⟩|⟨rfl,hJx3,hkf⟩)
     · have HJ3:=hid hJ3;clear hJ3;have hwl:=hb2.lt
       gi_wp2
       go_roundw
       case rel=>exact⟨m+1,by omega,by go_num,⟨_,by rw[List.length_append,Hpl.out];rfl,Hz,HJ3.out⟩,hb2.at_ (hst.2 _ (Nat.le_refl _) (by omega) hwl),hk2.trans hk3,hkf.same Dd _ (by omega) hK2 rfl,hid (Nat.le_trans hsz.out hst.1)⟩
       case measure=>simp[intOf];omega
     · have hK3:=hkf.same Dd _ (by omega) hK2 rfl
       gi_wp2
       refine⟨by simp,.inl ⟨_,_,rfl,run_takeDeferred hK3,?_⟩⟩;exact⟨_,results_none rfl _ _ _,⟨_,rfl⟩,.inr ⟨_,⟨_,hz,Hz.out⟩,hJx.putObj _ hJx3 (by omega) hK3 rfl⟩⟩
   · obtain rfl:m=L.data.length:=by omega
     gi_wp2
     refine⟨by simp,.inl ⟨_,_,rfl,run_takeDeferred hK2,?_⟩⟩;exact⟨_,results_none rfl _ _ _,⟨_,rfl⟩,.inl ⟨pr,by rw[hpm.out,<-hRl,List.take_length],hJ.putObj _ hJm (by omega) hK2 rfl⟩⟩
 case stop=>
  rintro Dd c pre V hDd ⟨m,hm,hpm⟩ ⟨rfl,hj⟩ hK
  gi_wp2
  refine⟨by simp,.inl ⟨_,_,rfl,run_takeDeferred hK,?_⟩⟩;exact⟨_,results_none rfl _ _ _,⟨_,rfl⟩,.inr ⟨_,⟨m,by omega,hpick pre (m+1) (by omega) hpm⟩,hJx.putObj _ hj (by omega) hK rfl⟩⟩
namespace Pn
def OkNext (l:List (Int×List UInt8))(x:Int×List UInt8):Prop:=sectorOk x.1=true/\x.1∉l.map (·.1)/\x.2.length=64
def OkSeq (l:List (Int×List UInt8)):Prop:=∀i (hi:i<l.length),OkNext (l.take i) l[i]
theorem OkSeq.snoc {l:List (Int×List UInt8)}(h:OkSeq l){x:Int×List UInt8}(hx:OkNext l x):OkSeq (l++[x]):=by
 intro i hi
 rcases Nat.lt_or_ge i l.length with h1|h1
 · have:=h i h1;rw[List.getElem_append_left h1,List.take_append_of_le_length (by omega)];exact this
 · obtain rfl:i=l.length:=by simp at hi;omega
   rw[List.getElem_append_right (Nat.le_refl _),List.take_append_of_le_length (Nat.le_refl _),List.take_length];simpa using hx
theorem GP {L:Pn}(h:L.targets.length=L.data.length)(i:Nat):(L.secs.take i).map (·.1)=L.targets.take i:=by
 rw[List.map_take,Pn.secs,List.map_fst_zip (by omega)]
theorem Fv {L:Pn}{i:Nat}(hi:i<L.targets.length):L.find L.targets[i]=i↔L.targets[i]∉L.targets.take i:=by
 have hm:L.targets[i]∈L.targets:=List.getElem_mem hi;obtain⟨j,hj,e1,e2,e3⟩:=find_in hm;rw[e1];constructor
 · intro h hmem;have h:j=i:=by omega
   subst h;obtain⟨k,hk,ek⟩:=List.getElem_of_mem hmem;rw[List.length_take]at hk;rw[List.getElem_take]at ek;have hlt:k<List.findIdx (· ==L.targets[j]) L.targets:=by
    have:List.findIdx (· ==L.targets[j]) L.targets=j:=e3;omega
   have:=List.not_of_lt_findIdx hlt;simp[ek]at this
 · intro h
   rcases Nat.lt_trichotomy j i with h1|h1|h1
   · refine absurd ?_ h;rw[List.mem_take_iff_getElem];exact⟨j,by omega,e2⟩
   · rw[h1]
   · have:=List.not_of_lt_findIdx (xs:=L.targets) (p:=(· ==L.targets[i])) (i:=i) (by have:List.findIdx (· ==L.targets[i]) L.targets=j:=e3;omega);simp at this
theorem fit_of_all {L:Pn}(h1:L.targets.length=L.data.length)(h2:L.targets.length<=24)(h:OkSeq L.secs):L.fit=true:=by
 refine fit_iff.2 ⟨h1,h2,fun i hi=>?_,fun i hi=>?_⟩
 · have hs:i<L.secs.length:=by rw[Cg L h1];exact hi
   obtain⟨m1,m2,e⟩:=BJ L i hs;have:=h i hs;rw[e,OkNext,GP h1]at this;exact⟨this.1,(Fv hi).2 this.2.1⟩
 · have hs:i<L.secs.length:=by rw[Cg L h1];omega
   obtain⟨m1,m2,e⟩:=BJ L i hs;have:=h i hs;rw[e]at this;exact this.2.2
theorem fit_not_at {L:Pn}{i:Nat}(hi:i<L.secs.length)(h:¬OkNext (L.secs.take i) L.secs[i]):L.fit=false:=by
 refine fit_no fun hf=>h ?_
 obtain⟨m1,m2,e⟩:=BJ L i hi;rw[e,OkNext,GP hf.1];exact⟨(hf.2.2.1 i m1).1,(Fv m1).1 (hf.2.2.1 i m1).2,hf.2.2.2 i m2⟩
end Pn
theorem PK {x:Int}(h: -9223372036854775808<=x/\x<=9223372036854775807):(Lit.int .i64 x).wf=true:=by
 simp only[Lit.wf,Bool.and_eq_true,decide_eq_true_eq];exact h
theorem Km (P:Program)(w:World)(t tb ti tm:TypeId)(c:Array Value){V:World}(e:V=(((((w.alloc (.cells c t)).alloc (.cells #[.bool false] tb)).alloc (.map #[] 0)).alloc (.cells #[.map (some (w.heap.size+1+1))] tm)).alloc (.cells c t)):=by rfl):
 Below w.heap.size w V/\Blk V (w.heap.size+1) tb #[.bool false]/\Blk V (w.heap.size+1+1+1) tm #[.map (some (w.heap.size+1+1))]/\Seen P ti tb V (w.heap.size+1+1) 0 []/\Blk V (w.heap.size+1+1+1+1) t c:=by
 subst e;have b1:=Blk.new (w.alloc (.cells c t)) tb #[.bool false];have b3:=Blk.new (((w.alloc (.cells c t)).alloc (.cells #[.bool false] tb)).alloc (.map #[] 0)) tm #[.map (some (w.heap.size+1+1))];have b4:=Blk.new ((((w.alloc (.cells c t)).alloc (.cells #[.bool false] tb)).alloc (.map #[] 0)).alloc (.cells #[.map (some (w.heap.size+1+1))] tm)) t c;have sn:=World.ownsMap_made (H:=Unit) ((w.alloc (.cells c t)).alloc (.cells #[.bool false] tb)) P ti (plainElem P tb);simp only[Ys]at b1 b3 b4 sn;exact⟨((((((Below.refl _ w).alloc (Nat.le_refl _) _).alloc (by simp) _).alloc (by simp;omega) _).alloc (by simp;omega) _).alloc (by simp;omega) _),((b1.alloc _).alloc _).alloc _,b3.alloc _,(sn.alloc _).alloc _,b4⟩
theorem LZ (L:Pn)(p' q':Pl)(w:World)(hL:IsPn w L p' q')(h:L.targets.length≠L.data.length\/24<L.targets.length):
 Calls Tryz.prog 144 #[pval L p' q'] w fun e w'=>e=.returned (.bool L.fit)/\Below w.heap.size w w':=by
 have Hf:=hid (show L.fit=false by refine Pn.fit_no fun hf=>?_;have:=hf.1;have:=hf.2.1;omega);have hm1:=hL.pm;have hc1:=hL.pc;have hm2:=hL.qm;have hc2:=hL.qc;unfold maxLen at hm1 hm2;obtain⟨B1,b1⟩:=p';obtain⟨B2,b2⟩:=q';simp only at hm1 hm2 hc1 hc2;have zb:=(Blk.new (w.alloc (.cells #[.slice B1 L.targets.length b1,.slice B2 L.data.length b2] 63)) 4 #[.bool false]);rw[World.size_alloc]at zb;have z0:=blk1 zb;by_cases h1:L.targets.length=L.data.length
 · have h2:24<L.targets.length:=by omega
   have g1:((L.targets.length:Int) !=(L.data.length:Int))=false:=by simp[h1]
   have g2:decide ((24:Int)<(L.targets.length:Int))=true:=by simp;omega
   have g3:(24:Int)<(L.targets.length:Int):=by omega
   clear h h1 h2;go_enter Tryz.func144,Tryz.ntmps144;go_wp2_with fail
   refine bodyPost_ret (v:=.bool false) (by simp[results,Tryz.results144,go_sem,z0]) rfl ?_;exact⟨by rw[Hf.out],Ap _ _ _⟩
 · have g1:((L.targets.length:Int) !=(L.data.length:Int))=true:=by simp;omega
   clear h h1;go_enter Tryz.func144,Tryz.ntmps144;go_wp2_with fail
   refine bodyPost_ret (v:=.bool false) (by simp[results,Tryz.results144,go_sem,z0]) rfl ?_;exact⟨by rw[Hf.out],Ap _ _ _⟩
theorem L1 (L:Pn)(p' q':Pl)(w:World)(hL:IsPn w L p' q')(h1:L.targets.length=L.data.length)(h2:L.targets.length<=24):
 Calls Tryz.prog 144 #[pval L p' q'] w fun e w'=>e=.returned (.bool L.fit)/\Below w.heap.size w w':=by
 have n1:1<=6:=by omega
 have hmm:=@run_makeMap Tryz.prog;have hLW:=fun(W:World)(hb:Below w.heap.size w W)=>(hL.below hb:IsPn W L p' q')
 have g1:((L.targets.length:Int) !=(L.data.length:Int))=false:=by simp[h1]
 have g2:decide ((24:Int)<(L.targets.length:Int))=false:=by simp;omega
 have g3:(L.targets.length:Int)<=24:=by omega
 have Hlen:=hid h1;have Hmany:=hid h2;clear hL h1 h2;obtain⟨B1,b1⟩:=p';obtain⟨B2,b2⟩:=q';refine(callsIn_wide (n:=6)).1 (callsIn_of_wp_marks Tryz.func144 rfl trivial (wpIn_wide.2 ?_) rfl);simp only[Tryz.ntmps144,Nat.reduceAdd,Nat.reduceSub,Yn];go_wp2_with (go_at_call 174;refine(callsIn_wide.1 (GQ 5 L ⟨B1,b1⟩ ⟨B2,b2⟩ _)).mono ?_;rintro e w3 ⟨rfl,rfl⟩)
 obtain⟨hB,b0,mb,sn,bp⟩:=Km Tryz.prog w 63 4 3 227 #[.slice B1 L.targets.length b1,.slice B2 L.data.length b2];generalize (((((w.alloc (.cells #[.slice B1 L.targets.length b1,.slice B2 L.data.length b2] 63)).alloc (.cells #[.bool false] 4)).alloc (.map #[] 0)).alloc (.cells #[.map (some (w.heap.size+1+1))] 227)).alloc (.cells #[.slice B1 L.targets.length b1,.slice B2 L.data.length b2] 63))=V at*;have vl:w.heap.size+1+1+1+1<V.heap.size:=bp.lt;have hbs:∀g∈[w.heap.size+1+1+1+1],g<V.heap.size/\w.heap.size+1+1+1<g:=fun g hg=>by
  simp only[List.mem_cons,List.not_mem_nil,or_false]at hg;omega
 have Hsec:=hid (fun(y:Fin L.secs.length)=>show(Lit.int .i64 L.secs[y.val].1).wf=true/\L.secs[y.val].2.length<=9223372036854775807 by
  obtain⟨m1,m2,e⟩:=BJ L y.val y.isLt;have hP:=hLW V hB;rw[e];exact⟨PK (hP.ats _ (List.getElem_mem m1)),hP.strs _ (List.getElem_mem m2)⟩)
 refine(wpIn_wide (n:=6)).1 ?_;refine Er rfl n1 (gf:=189) (lb:=#[.pointer (some ⟨w.heap.size+1+1+1+1,0,none⟩)]) rfl trivial (enters_of Tryz.func189 (by kernel_rfl) rfl)
  (GR 5 (by omega) L ⟨B1,b1⟩ ⟨B2,b2⟩ Hlen.out (by have:=Hmany.out;omega) w.heap.size _ V hB.size (fun W hb=>hLW W (hB.trans hb)) bp)
  KeepB.trans (fun W l o o' q1 q2 q3 q4=>KeepB.putObj o' (by omega) (fun g hg=>by have:=hbs g hg;omega)) (Below.refl _ _) (fun _=>rfl)
  (fun pre W=>Blk W (w.heap.size+1) 4 #[.bool false]/\Blk W (w.heap.size+1+1+1) 227 #[.map (some (w.heap.size+1+1))]/\Seen Tryz.prog 3 4 W (w.heap.size+1+1) pre.length ((picked L.secs pre).map (·.1))/\Hid (Pn.OkSeq (picked L.secs pre))/\Below w.heap.size w W/\V.heap.size<=W.heap.size)
  (fun c pre W=>c=.ret/\(∃pre' y,pre=pre'++[y]/\Hid (¬Pn.OkNext (picked L.secs pre') L.secs[y.val]))/\Blk W (w.heap.size+1) 4 #[.bool false]/\Below w.heap.size w W)
  ?hI ?hIx ?h0
  (fun y a' W=>a'={tmps:=#[pval L ⟨B1,b1⟩ ⟨B2,b2⟩,.pointer (some ⟨w.heap.size,0,none⟩),.pointer (some ⟨w.heap.size+1,0,none⟩),.pointer (some ⟨w.heap.size+1+1+1,0,none⟩),.int .i64 L.secs[y.val].1,.string (bs L.secs[y.val].2),.pointer (some ⟨w.heap.size,0,none⟩),.slice B1 L.targets.length b1,.int .i64 L.targets.length,.pointer (some ⟨w.heap.size,1,none⟩),.slice B2 L.data.length b2,.int .i64 L.data.length,.bool false,.bool false,.pointer (some ⟨w.heap.size,0,none⟩),.slice B1 L.targets.length b1,.int .i64 L.targets.length,.bool false,.bool false,.map (some (w.heap.size+1+1)),.agg #[.slice B1 L.targets.length b1,.slice B2 L.data.length b2],.func (.func 189) #[] #[.pointer (some ⟨w.heap.size+1+1+1+1,0,none⟩)],.int .i64 L.secs[y.val].1,.string (bs L.secs[y.val].2),undef,undef,undef,undef,undef,undef,undef,undef,undef,undef,undef,undef,undef,undef],defers:=[]})
  (fun _ _ _ _ _ _ hs _ _=>hs) ?assign ?body ?done ?stop
 case hI=>
  rintro pre X Y row ⟨h1,h2,h3,h4,h5,h6⟩ hy hr;exact⟨(Own.from (AA _ _ (fun _:Unit=>_)) _) () X Y row h1 hy hr,(Own.from (AA _ _ (fun _:Unit=>_)) _) () X Y row h2 hy hr,h3.at_ (hy.block _ (by omega) (fun e=>by have:=(hr _ e.symm).1;omega)),h4,ownFrom_below (β:=Unit) (Nat.le_refl _) hB.size () X Y row h5 hy hr,Nat.le_trans h6 hy.size⟩
 case hIx=>
  rintro c pre X Y row ⟨h0,h1,h2,h3⟩ hy hr;exact⟨h0,h1,(Own.from (AA _ _ (fun _:Unit=>_)) _) () X Y row h2 hy hr,ownFrom_below (β:=Unit) (Nat.le_refl _) hB.size () X Y row h3 hy hr⟩
 case h0=>exact⟨b0,mb,sn,hid (fun i hi=>by simp[picked]at hi),hB,Nat.le_refl _⟩
 case assign=>
  rintro l pre y W K hI hK
  dsimp only[secEnc]
  gi_wp2
  exact hK _ _ (KeepsFrom.refl _ _) (Stays.refl _ _) (KeepB.refl _ _ _) hI rfl
 case body=>
  rintro l pre y a' W ⟨h1,h2,h3,hok,hb,hs⟩ rfl hpl;have hl3:=h3.look (tm:=227) Tryz.underlying3 Tryz.underlying4 Tryz.underlying227 (by kernel_rfl) (Hsec.out y).1;have hwf:=(Hsec.out y).1;have hsl:=(Hsec.out y).2;have Hnx:=hid (fun(h:Pn.OkNext (picked L.secs pre) L.secs[y.val])=>show Pn.OkSeq (picked L.secs (pre++[y])) by rw[BB];exact hok.out.snoc h);have Hsn:=hid (show seenD (((picked L.secs pre).map (·.1))++[L.secs[y.val].1])=seenD ((picked L.secs (pre++[y])).map (·.1)) by rw[BB];simp);generalize hz:L.secs[y.val]=z at*;obtain⟨k,s⟩:=z;have Hz:=hid hz;have h1k:=blk1 h1;have h1f:=h1.frozen 0;have h2k:=blk1 h2;have hout:=Cv k W;clear hz;simp only at hl3 hwf hsl Hsn;cases hA:sectorOk k with
  |false=>
   have He:=hid (show¬Pn.OkNext (picked L.secs pre) (k,s)from fun h=>by have:=h.1;rw[hA]at this;cases this);rw[hA]at hout;clear hA
   gi_wp2
   refine⟨trivial,(CallsIn.inRound l (callsIn_wide.2 hout)).mono ?_⟩;rintro e W2 ⟨rfl,rfl⟩
   gi_wp2
   exact⟨(KeepsOthers.setCell _ _ _).from _,rfl,⟨pre,y,rfl,hid (by rw[Hz.out];exact He.out)⟩,h1.set 0 _,hb.setCell (p:=⟨w.heap.size+1,0,none⟩) (by simp) _⟩
  |true=>
   rw[hA]at hout;by_cases hBm:k∈(picked L.secs pre).map (·.1)
   · have He:=hid (show¬Pn.OkNext (picked L.secs pre) (k,s)from fun h=>h.2.1 hBm);rw[decide_eq_true hBm]at hl3;clear hA hBm
     gi_wp2
     refine⟨trivial,(CallsIn.inRound l (callsIn_wide.2 hout)).mono ?_⟩;rintro e W2 ⟨rfl,rfl⟩
     gi_wp2
     exact⟨(KeepsOthers.setCell _ _ _).from _,rfl,⟨pre,y,rfl,hid (by rw[Hz.out];exact He.out)⟩,h1.set 0 _,hb.setCell (p:=⟨w.heap.size+1,0,none⟩) (by simp) _⟩
   · rw[decide_eq_false hBm]at hl3;by_cases hC:s.length=64
     · have He:=hid (show Pn.OkNext (picked L.secs pre) (k,s)from⟨hA,hBm,hC⟩);have hC':((s.length:Int) !=64)=false:=by simp;omega
       clear hA hBm hC
       gi_wp2
       refine⟨trivial,(CallsIn.inRound l (callsIn_wide.2 hout)).mono ?_⟩;rintro e W2 ⟨rfl,rfl⟩
       gi_wp2_with (gi_at_mapUpdate;refine wpListIn_mapUpdate_own _ rfl _ _ _ 227 rfl 3 4 (Maps.int_keyed Tryz.underlying3) Tryz.underlying227 _ (w.heap.size+1+1) pre.length _ rfl h3 (by unfold maxLen;have:=Hmany.out;have:=Cg L Hlen.out;omega) _ _ _ rfl rfl (Maps.keyOf_int_mk Tryz.underlying3 hwf) _ [] (plainElem_bool Tryz.underlying4 true) ?_;intro w1 hown1 hgrow1)
       have hgw:W2.heap.size<=w1.heap.size:=hgrow1.size;exact⟨KeepsFrom.of_grownBy hgrow1 (fun j e=>by cases e;omega),⟨Stays.grown hgrow1 (fun j e=>by cases e;omega),⟨(Below.refl _ W2).grown hgrow1 hb.size (fun k e=>by cases e;omega),fun g hg=>hgrow1.block g (by have:=hbs g hg;omega) (fun e=>by cases e;have:=hbs _ hg;omega)⟩⟩,
        h1.kept hgrow1 (by simp),h2.kept hgrow1 (by simp),by unfold Seen;rw[<-Hsn.out,N9,List.length_append];exact hown1,hid (Hnx.out He.out),hb.grown hgrow1 hb.size (fun k e=>by cases e;omega),by omega⟩
     · have He:=hid (show¬Pn.OkNext (picked L.secs pre) (k,s)from fun h=>hC h.2.2);have hC':((s.length:Int) !=64)=true:=by simp;omega
       clear hA hBm hC
       gi_wp2
       refine⟨trivial,(CallsIn.inRound l (callsIn_wide.2 hout)).mono ?_⟩;rintro e W2 ⟨rfl,rfl⟩
       gi_wp2
       exact⟨(KeepsOthers.setCell _ _ _).from _,rfl,⟨pre,y,rfl,hid (by rw[Hz.out];exact He.out)⟩,h1.set 0 _,hb.setCell (p:=⟨w.heap.size+1,0,none⟩) (by simp) _⟩
 case done=>
  rintro Dd ys U hDd hS ⟨h1,h2,h3,hok,hb,hs⟩ hK;have Hf:=hid (show L.fit=true from Pn.fit_of_all Hlen.out Hmany.out (by rw[<-hS];exact hok.out));have h1k:=blk1 h1;have h1f:=h1.frozen 0;have s1:=h1.set 0 (.bool true);have hK2:(U.setCell ⟨w.heap.size+1,0,none⟩ (.bool true)).heap[Dd]? =some (.deferred (some [])):=(Below.heap_setCell _ _ _ _ (by simp;omega)).trans hK;have d0:=fun o=>blk1 (s1.at_ (World.putObj_heap_other (r:=Dd) (o:=o) (by omega)))
  go_wp2_with fail
  refine⟨by simp,.inl ⟨_,_,rfl,run_takeDeferred hK2,?_⟩⟩;refine⟨.bool true,by simp[results,Tryz.results144,go_sem,d0],by rw[Hf.out],?_⟩;exact(hb.setCell (p:=⟨w.heap.size+1,0,none⟩) (by simp) _).trans (belowK_b (w:=w) (Nat.le_refl _) _ Dd _ _ (by omega) hK2 rfl rfl)
 case stop=>
  rintro Dd c pre U hDd ⟨m,hm,hpre⟩ ⟨rfl,⟨pre',y,e,he⟩,h1,hb⟩ hK;have Hf:=hid (show L.fit=false by
   subst e;rw[BB,List.take_succ_eq_append_getElem hm]at hpre;have e1:=List.append_inj_left' hpre rfl;have e2:=List.append_inj_right' hpre rfl;injection e2 with e2
   have:=he.out;rw[e1,e2]at this;exact Pn.fit_not_at hm this)
  have d0:=fun o=>blk1 (h1.at_ (World.putObj_heap_other (r:=Dd) (o:=o) (by omega)))
  refine wpIn_wide.2 ?_;go_wp2_with fail
  refine⟨by simp,.inl ⟨_,_,rfl,run_takeDeferred hK,?_⟩⟩;refine⟨.bool false,by simp[results,Tryz.results144,go_sem,d0],by rw[Hf.out],?_⟩;exact hb.trans (belowK_b (w:=w) (Nat.le_refl _) _ Dd _ _ (by omega) hK rfl rfl)
theorem Gl (L:Pn)(p' q':Pl)(w:World)(hL:IsPn w L p' q'):
 Calls Tryz.prog 144 #[pval L p' q'] w fun e w'=>e=.returned (.bool L.fit)/\Below w.heap.size w w':=by
 by_cases h:L.targets.length≠L.data.length\/24<L.targets.length
 · exact LZ L p' q' w hL h
 · exact L1 L p' q' w hL (by omega) (by omega)
end
end Go.Proofs.YtmiilfnchfdfcaaGreatDoor
