/- By: Packs, PackName, RootPlain, ImgPlain, Blk3. -/
import Derived.Test.YtmiilfnchfdfcaaGreatDoorRows
import Derived.Test.YtmiilfnchfdfcaaGreatDoorShelf
import Derived.Lib.ConvBytes
import Derived.Lib.TrimByte
import Derived.Test.YtmiilfnchfdfcaaGreatDoorByJourPlain
set_option maxRecDepth 100000
set_option maxHeartbeats 40000000
set_option linter.unusedVariables false
namespace Go.Proofs.YtmiilfnchfdfcaaGreatDoor
section
open Go.RowKit Go.Shelf
attribute [local go_sem] Oper.semAt_some
def BytesIn (g off len:Nat)(W:World):Prop:=∀j,j<len->∃v:UInt8,W.cell? ⟨g,off+j,none⟩=some (.int .u8 v.toNat)
def BackK (Bs:Nat)(sv:Value)(g off len:Nat)(W W':World):Prop:=
 (W.cell? ⟨Bs,0,none⟩=some sv->W'.cell? ⟨Bs,0,none⟩=some sv)/\(BytesIn g off len W->BytesIn g off len W')
theorem BackK.t {Bs:Nat}{sv:Value}{g off len:Nat}{A B C:World}(h:BackK Bs sv g off len A B)(k:BackK Bs sv g off len B C):BackK Bs sv g off len A C:=
 ⟨fun x=>k.1 (h.1 x),fun x=>k.2 (h.2 x)⟩
theorem BackK.b {Bs:Nat}{sv:Value}{g off len:Nat}{w:World}(W:World)(l:Nat)(o o':Obj)(_:w.heap.size<=l)(h:W.heap[l]? =some o)(hc:o.isCells=false)(_:o.isWalk=false):BackK Bs sv g off len W (W.putObj l o'):=
 ⟨fun x=>cell_kept x (grownBy_putObj' W l o') (fun r e=>by cases e;exact⟨_,h,hc⟩),
  fun x j hj=>by obtain⟨v,hv⟩:=x j hj;exact⟨v,cell_kept hv (grownBy_putObj' W l o') (fun r e=>by cases e;exact⟨_,h,hc⟩)⟩⟩
def backEnc (len:Nat)(x:Fin len×UInt8):Array Value:=#[.int .i64 (x.1.val:Int),.int .u8 x.2.toNat]
theorem Ih (F:Fence)(n:Nat)(h7:F.fn 200)(hro:F.round=none)(hn:1<=n)(l Bs g off len cap:Nat)(hreach:len<=140737488351232)
 (J Jx:List (Fin len×UInt8)->World->Prop)
 (hY:∀pre x W,J pre W->pre.length<len->YieldAt F (n-1) Tryz.prog l (backEnc len x) W fun e W'=>
  (e=.returned (.bool true)/\J (pre++[x]) W'/\BackK Bs (.slice (some ⟨g,off,none⟩) len cap) g off len W W')\/(e=.returned (.bool false)/\Jx (pre++[x]) W'))
 (W:World) (hBs:W.cell? ⟨Bs,0,none⟩=some (.slice (some ⟨g,off,none⟩) len cap)) (hc:BytesIn g off len W) (h0:J [] W):
 CallsIn F n Tryz.prog 200 #[.func (.yield l) #[] #[],.pointer (some ⟨Bs,0,none⟩)] W fun e W'=>(∃v,e=.returned v)/\
  ((∃ys,ys.map (fun y=>y.1.val)=(List.range len).reverse/\J ys W')\/(∃pre,True/\Jx pre W')):=by
 refine callsIn_of_wp Tryz.func200 rfl h7 ?_ hro;simp only[Tryz.ntmps200,Nat.reduceAdd,Nat.reduceSub,Yn]
 gi_wp2
 gi_loopw [3] (fun i wr=>∃(pre:List (Fin len×UInt8)),pre.length<=len/\i=.int .i64 ((len:Int)-1-pre.length)/\Hid (pre.map (fun y=>y.1.val)=((List.range len).reverse).take pre.length)/\J pre wr/\BytesIn g off len wr/\wr.cell? ⟨Bs,0,none⟩=some (.slice (some ⟨g,off,none⟩) len cap))
  (fun i _=>(intOf i+1).toNat)
 case atStart=>exact⟨[],Nat.zero_le _,by simp,Lib.hid rfl,h0,hc,hBs⟩
 case round=>
  obtain⟨pre,hk,rfl,hpm,hJs,hby,hbx⟩:=hrel;by_cases hlt:pre.length<len
  · obtain⟨v,hv⟩:=hby (len-1-pre.length) (by omega);have hv':wr.cell? ⟨g,off+((len:Int)-1-pre.length).toNat,none⟩=some (.int .u8 v.toNat):=by rw[<-hv];congr 2;omega
    obtain⟨fn,tmps,assign,body,hy,hR⟩:=hY pre (⟨len-1-pre.length,by omega⟩,v) wr hJs (by omega);simp only[backEnc]at hy;rw[show((len-1-pre.length:Nat):Int)=(len:Int)-1-pre.length by omega]at hy
    gi_wp2
    refine hR.mono ?_;rintro e W3 (⟨rfl,hJ3,hk3⟩|⟨rfl,hJx3⟩)
    · have hb3:=hk3.1 hbx;have hy3:=hk3.2 hby
      gi_wp2
      go_roundw
      case rel=>exact⟨pre++[(⟨len-1-pre.length,by omega⟩,v)],by simp;omega,by simp;omega,Lib.hid (by
       rw[List.map_append,hpm.out];simp only[List.length_append,List.map_cons,List.map_nil,List.length_singleton]
       rw[List.take_succ_eq_append_getElem (by simpa using hlt)];simp),hJ3,hy3,hb3⟩
      case measure=>simp[intOf];omega
    · gi_wp2
      refine bodyPost_ret (results_none rfl _ _ _) rfl ?_;exact⟨⟨_,rfl⟩,.inr ⟨_,trivial,hJx3⟩⟩
  · have hle:len<=pre.length:=by omega
    gi_wp2
    go_end0
    exact⟨⟨_,rfl⟩,.inl ⟨pre,by rw[hpm.out,List.take_of_length_le (by simpa using hle)],hJs⟩⟩
theorem Tryz.infoByte:(Tryz.prog.info? 5).map (fun i=>(i.zero,i.size,i.bytes))=some (some (.int .u8 0),1,1):=by kernel_rfl
theorem Ii (F:Fence)(n:Nat)(h5:F.fn 190)(hro:F.round=none)(a:Option Addr)(len cap:Nat)(w:World):
 CallsIn F n Tryz.prog 190 #[.slice a len cap] w fun e w'=>e=.returned (.func (.func 200) #[] #[.pointer (some ⟨w.heap.size,0,none⟩)])/\w'=w.alloc (.cells #[.slice a len cap] 139):=by
 refine callsIn_of_wp Tryz.func190 rfl h5 ?_ hro;simp only[Tryz.ntmps190,Nat.reduceAdd,Nat.reduceSub,Yn]
 gi_wp2
 go_ret
 exact⟨rfl,rfl⟩
theorem Ij (F:Fence)(n:Nat)(h7:F.fn 200)(hro:F.round=none)(hn:1<=n)(Bs g off len cap:Nat)(hreach:len<=140737488351232)(w:World)(hB:Bs<w.heap.size)(hg:g<w.heap.size)
 (hBs:w.cell? ⟨Bs,0,none⟩=some (.slice (some ⟨g,off,none⟩) len cap)) (hc:BytesIn g off len w):
 SeqStopsK F n Tryz.prog 200 #[.pointer (some ⟨Bs,0,none⟩)] (backEnc len) (BackK Bs (.slice (some ⟨g,off,none⟩) len cap) g off len) (fun ys=>ys.map (fun y=>y.1.val)=(List.range len).reverse) (fun _=>True) len w:=fun l J Jx W hW _ _ hY h0=>
 Ih F n h7 hro hn l Bs g off len cap hreach J Jx hY W ((hW.cell (p:=⟨Bs,0,none⟩) hB).trans hBs)
  (fun j hj=>by obtain⟨v,hv⟩:=hc j hj;exact⟨v,(hW.cell (p:=⟨g,off+j,none⟩) hg).trans hv⟩) h0
theorem Mo (F:Fence)(n:Nat)(h6:F.fn 175)(h14:F.fn 190)(h17:F.fn 200)(hro:F.round=none)(hn:3<=n)(x size:Nat)(hx:x<18446744073709551616)(hs:1<=size)(hs8:size<=8)(w:World):
 CallsIn F n Tryz.prog 175 #[.int .u64 x,.int .i64 size] w fun e w'=>(∃ys:List (Fin size×UInt8),ys.map (fun y=>y.1.val)=(List.range size).reverse/\e=.returned (.string ⟨(putSt size x ys).1.toArray⟩))/\Below w.heap.size w w':=by
 have h1:1<=n:=by omega
 refine callsIn_of_wp_marks Tryz.func175 rfl h6 ?_ hro;simp only[Tryz.ntmps175,Nat.reduceAdd,Nat.reduceSub,Yn];obtain⟨i0,hi,hz0,hz1,hz2⟩:=info_parts Tryz.infoByte;have hmk:=fun W=>Cf (P:=Tryz.prog) 139 5 i0 (.int .u8 0) Tryz.underlying139 hi hz0 .i64 .i64 size size (Nat.le_refl _) (by rw[hz2];omega) (by omega) W
 rw[hz1,Nat.mul_one]at hmk
 gi_wp2_with (gi_at_call 190;refine(Ii F (n-1) h14 hro _ _ _ _).mono ?_;rintro e w' ⟨rfl,rfl⟩)
 have b0:=Blk.new w 28 #[Value.int .u64 (x:Int)];have b1:=Blk.new (w.alloc (.cells #[.int .u64 x] 28)) 5 (madeCells #[.int .u8 0] size);have b2:=Blk.new ((w.alloc (.cells #[.int .u64 x] 28)).alloc (.cells (madeCells #[.int .u8 0] size) 5)) 139 #[.slice (some ⟨w.heap.size+1,0,none⟩) size size];have b3:=Blk.new (((w.alloc (.cells #[.int .u64 x] 28)).alloc (.cells (madeCells #[.int .u8 0] size) 5)).alloc (.cells #[.slice (some ⟨w.heap.size+1,0,none⟩) size size] 139)) 139 #[.slice (some ⟨w.heap.size+1,0,none⟩) size size];simp only[Ys]at b1 b2 b3;have hmade:madeCells #[.int .u8 0] size=byteCells (List.replicate size 0):=by
  apply Array.toList_inj.1
  rw[toList_madeCells_one];simp[byteCells]
 rw[hmade]at b1 b2 b3 ⊢;have hB0:=(((Yz (W:=w) (.cells #[.int .u64 x] 28)).alloc (by simp) (.cells (byteCells (List.replicate size 0)) 5)).alloc (by simp;omega) (.cells #[.slice (some ⟨w.heap.size+1,0,none⟩) size size] 139)).alloc (by simp;omega) (.cells #[.slice (some ⟨w.heap.size+1,0,none⟩) size size] 139);refine wpIn_rangeFunc_ownG hro h1 (gf:=200) (lb:=#[.pointer (some ⟨w.heap.size+1+1+1,0,none⟩)]) rfl h17 (enters_of Tryz.func200 (by kernel_rfl) rfl)
  (Ij F (n-1) h17 hro (by omega) (w.heap.size+1+1+1) (w.heap.size+1) 0 size size (by omega) _ (by simp) (by simp) (by rw[b3.cell];rfl) ?hby) BackK.t (fun W l o o' q1 q2 q3 q4=>BackK.b (w:=w) W l o o' (by simp at q1;omega) q2 q3 q4) (Below.refl _ _) (fun _=>rfl)
  (fun pre W=>(Blk W w.heap.size 28 #[.int .u64 (putSt size x pre).2]/\Blk W (w.heap.size+1) 5 (byteCells (putSt size x pre).1)/\Blk W (w.heap.size+1+1) 139 #[.slice (some ⟨w.heap.size+1,0,none⟩) size size]/\Blk W (w.heap.size+1+1+1) 139 #[.slice (some ⟨w.heap.size+1,0,none⟩) size size])/\Below w.heap.size w W)
  (fun _ _ _=>False)
  (OwnFrom.and (Own.from (Own.and (AA _ _ _) (Own.and (AA _ _ _) (Own.and (AA _ _ _) (AA _ _ _)))) _) (ownFrom_below (Nat.le_refl _) (by simp;omega)))
  (fun _ _ _ _ _ hs _ _=>hs)
  ?h0
  (fun y=>{tmps:=#[.int .u64 x,.int .i64 size,.pointer (some ⟨w.heap.size,0,none⟩),undef,.string ⟨#[]⟩,.pointer (some ⟨w.heap.size+1+1,0,none⟩),.int .i64 (y.1.val:Int),.int .i64 size,.bool (decide ((size:Int)<1)),.bool (decide ((size:Int)<1)),.int .i64 size,.bool (decide ((8:Int)<size)),.bool (decide ((size:Int)<1)||decide ((8:Int)<size)),.int .i64 size,.slice (some ⟨w.heap.size+1,0,none⟩) size size,.slice (some ⟨w.heap.size+1,0,none⟩) size size,.func (.func 200) #[] #[.pointer (some ⟨w.heap.size+1+1+1,0,none⟩)],.int .i64 (y.1.val:Int),.int .u8 y.2.toNat,undef,undef,undef,undef,undef,undef,undef,undef,undef],defers:=[]}) ?assign ?body ?done ?stop
 case hby=>exact fun j hj=>⟨0,by rw[((b1.alloc _).alloc _).cell];simp[byteCells,hj]⟩
 case h0=>exact⟨⟨((b0.alloc _).alloc _).alloc _,(b1.alloc _).alloc _,b2.alloc _,b3⟩,hB0⟩
 case assign=>
  intro l y W K hK
  dsimp only[backEnc]
  gi_wp2
  exact hK
 case body=>
  rintro l pre ⟨i,v⟩ W ⟨⟨h1,h2,h3,h4⟩,hB⟩ hpl;have c1:=h1.cell 0;have c3:=h3.cell 0;simp at c1 c3;have f1:=h1.frozen 0;have f2:=h2.frozen i.val;have hi:=i.isLt;obtain⟨v2,c2⟩:∃v2,W.cell? ⟨w.heap.size+1,i.val,none⟩=some v2:=by
   rw[h2.cell];exact⟨_,Array.getElem?_eq_getElem (by simp[byteCells,De])⟩
  gi_wp2
  have hv:Value.int .u8 ((putSt size x pre).2%256:Int)=.int .u8 (UInt8.ofNat (putSt size x pre).2).toNat:=by simp
  have hB':=(hB.setCell (p:=⟨w.heap.size+1,i.val,none⟩) (by simp) (.int .u8 ((putSt size x pre).2%256:Int))).setCell (p:=⟨w.heap.size,0,none⟩) (Nat.le_refl _) (.int .u64 ((putSt size x pre).2/256:Int));have h1':=(h1.other (a:=⟨w.heap.size+1,i.val,none⟩) (by simp) (.int .u8 ((putSt size x pre).2%256:Int))).set 0 (.int .u64 ((putSt size x pre).2/256:Int));have h2':=(h2.set i.val (.int .u8 ((putSt size x pre).2%256:Int))).other (a:=⟨w.heap.size,0,none⟩) (by simp;try omega) (.int .u64 ((putSt size x pre).2/256:Int));have h3':=(h3.other (a:=⟨w.heap.size+1,i.val,none⟩) (by simp;try omega) (.int .u8 ((putSt size x pre).2%256:Int))).other (a:=⟨w.heap.size,0,none⟩) (by simp;try omega) (.int .u64 ((putSt size x pre).2/256:Int));have h4':=(h4.other (a:=⟨w.heap.size+1,i.val,none⟩) (by simp;try omega) (.int .u8 ((putSt size x pre).2%256:Int))).other (a:=⟨w.heap.size,0,none⟩) (by simp;try omega) (.int .u64 ((putSt size x pre).2/256:Int));refine⟨((KeepsOthers.setCell _ _ _).trans (KeepsOthers.setCell _ _ _)).from _,⟨fun _=>by rw[h4'.cell];rfl,fun _ j hj=>?_⟩,⟨?_,?_,h3',h4'⟩,hB'⟩
  · refine⟨((putSt size x pre).1.set i.val (UInt8.ofNat (putSt size x pre).2))[j]'(by simpa[De]using hj),?_⟩;rw[h2'.cell,hv];simp[byteCells,De,hj,List.getElem_set]
    split<;>simp_all
  · simpa[Ej,putStep]using h1'
  · have e:byteCells (putSt size x (pre++[(i,v)])).1=(byteCells (putSt size x pre).1).setIfInBounds i.val (.int .u8 ((putSt size x pre).2%256:Int)):=by
     rw[Ej,hv];simp[putStep,byteCells,List.map_set]
    rw[e];exact h2'
 case done=>
  rintro D ys W hD hys ⟨⟨h1,h2,h3,h4⟩,hB⟩ hK;have c3:=h3.cell 0;simp at c3;have hcv:=run_convert_bytes_back (P:=Tryz.prog) W 139 9 5 ⟨w.heap.size+1,0,none⟩ size (putSt size x ys).1 Tryz.underlying139 Tryz.underlying5 Tryz.underlying9 (fun j hj=>by
   have e:(Addr.add ⟨w.heap.size+1,0,none⟩ j)=⟨w.heap.size+1,j,none⟩:=by simp only[Addr.add];split<;>simp_all
   rw[e,h2.cell j];simp[byteCells,hj])
  rw[De]at hcv
  gi_wp2
  refine⟨by simp,.inl ⟨_,_,rfl,run_takeDeferred hK,?_⟩⟩;exact⟨_,results_tmp rfl _ _ _,⟨ys,hys,rfl⟩,hB.trans (belowK_b (w:=w) (Nat.le_refl _) W D _ _ (by simp at hD;omega) hK rfl rfl)⟩
 case stop=>
  rintro D c pre W _ _ h _;exact h.elim
end
section
open Go.RowKit Go.Shelf
attribute [local go_sem] Ad Ag Ah Ac Aj Ai
theorem Gr (x size:Nat)(hx:x<18446744073709551616)(hs:1<=size)(hs8:size<=8)(w:World):
 Calls Tryz.prog 175 #[.int .u64 x,.int .i64 size] w fun e w'=>e=.returned (.string (bs (be size x)))/\Below w.heap.size w w':=
 (callsIn_wide (n:=3)).1 ((Mo .wide 3 trivial trivial trivial rfl (by omega) x size hx hs hs8 w).mono fun e w' ⟨⟨ys,hy,he⟩,hb⟩=>⟨by rw[he,Mk _ _ _ hy];rfl,hb⟩)
def putS (x:Nat)(size:Int):List UInt8:=if 1<=size/\size<=8 then be size.toNat x else []
theorem Ik (w:World):PredAt Tryz.prog 105 #[] encR badRune w:=fun W r _=>by
 unfold FnGives;by_cases h1:(r:Int)<33
 · have h2:badRune r=true:=by simp[badRune];omega
   go_enter Tryz.func105,Tryz.ntmps105
   go_wp2
   go_ret
   exact⟨by first|rfl|(rw[h2];rfl),0,rfl⟩
 · by_cases h3:(126:Int)<r
   · have h2:badRune r=true:=by simp[badRune];omega
     go_enter Tryz.func105,Tryz.ntmps105
     go_wp2
     go_ret
     exact⟨by first|rfl|(rw[h2];rfl),0,rfl⟩
   · have h2:badRune r=false:=by simp[badRune];omega
     go_enter Tryz.func105,Tryz.ntmps105
     go_wp2
     go_ret
     exact⟨by first|rfl|(rw[h2];rfl),0,rfl⟩
theorem Ec (l:List UInt8)(hl:l.length<=maxLen)(w:World):
 Calls Tryz.prog 65 #[.string (bs l)] w fun e w'=>e=.returned (.bool (nameOk l))/\Below w.heap.size w w':=by
 unfold maxLen at hl;by_cases h1:l=[]
 · subst h1;have hk:nameOk []=false:=rfl;go_enter Tryz.func65,Tryz.ntmps65
   go_wp2
   go_ret
   exact⟨rfl,Below.refl _ _⟩
 · have h1':l.isEmpty=false:=by simpa using h1
   by_cases h2:l.length<=8
   · have h2':decide ((l.length:Int)<=8)=true:=by simp;omega
     go_enter Tryz.func65,Tryz.ntmps65;go_wp2_with (go_at_call 104;refine(Tryz.strings_IndexFunc 105 #[] (enters_of Tryz.func105 (by kernel_rfl) rfl) badRune _ _ (Ik _)).mono ?_;rintro e w' ⟨rfl,hb⟩)
     go_ret
     refine⟨?_,hb⟩;have hidx:=KJ l;refine congrArg (fun b=>Ending.returned (.bool b)) ?_;simp only[nameOk,h1',Bool.not_false,Bool.true_and,h2,decide_true];rw[Bool.eq_iff_iff];simpa using hidx
   · have h2':decide ((l.length:Int)<=8)=false:=by simp;omega
     have hk:nameOk l=false:=by simp[nameOk,h2]
     go_enter Tryz.func65,Tryz.ntmps65
     go_wp2
     go_ret
     exact⟨by rw[hk];rfl,Below.refl _ _⟩
theorem ND (c:Nat):Lib.repeatL [0] c=List.replicate c 0:=by
 induction c with
 |zero=>simp[Lib.repeatL]
 |succ c ih=>simp[Lib.repeatL,ih,List.replicate_succ]
theorem LW (l:List UInt8)(hl:l.length<=maxLen)(k:Int)(h:k<l.length\/65536<k)(w:World):
 Calls Tryz.prog 66 #[.string (bs l),.int .i64 k] w fun e w'=>e=.returned (.tuple #[.string (bs []),.int .i64 11])/\w=w':=by
 unfold maxLen at hl
 rcases h with h|h
 · go_enter Tryz.func66,Tryz.ntmps66
   go_wp2
   go_ret2
   exact⟨rfl,rfl⟩
 · by_cases h0:k<l.length
   · go_enter Tryz.func66,Tryz.ntmps66
     go_wp2
     go_ret2
     exact⟨rfl,rfl⟩
   · go_enter Tryz.func66,Tryz.ntmps66
     go_wp2
     go_ret2
     exact⟨rfl,rfl⟩
theorem Eg (l:List UInt8)(hl:l.length<=maxLen)(k:Int)(h:(l.length:Int)<=k)(h2:k<=65536)(w:World):
 Calls Tryz.prog 66 #[.string (bs l),.int .i64 k] w fun e w'=>e=.returned (.tuple #[.string (bs (l++List.replicate (k.toNat-l.length) 0)),.int .i64 0])/\Below w.heap.size w w':=by
 unfold maxLen at hl;obtain⟨k,rfl⟩:=Int.eq_ofNat_of_zero_le (show 0<=k by omega);have hrep:=fun W=>Tryz.strings_Repeat (bs [0]) (k-l.length) W (by omega) (by rw[Ac];simp;omega)
 rw[show((k-l.length:Nat):Int)=(k:Int)-l.length by omega,AY,ND,Ad]at hrep;go_enter Tryz.func66,Tryz.ntmps66;go_wp2_with (go_at_call 106;refine(hrep _).mono ?_;rintro e w' ⟨rfl,hb⟩)
 go_ret2
 refine⟨?_,hb⟩;simp
theorem LA (l:List UInt8)(h:nameOk l=true)(w:World):
 Calls Tryz.prog 26 #[.string (bs l)] w fun e w'=>e=.returned (.tuple #[.string (bs (l++List.replicate (8-l.length) 0)),.int .i64 0])/\Below w.heap.size w w':=by
 have hl:l.length<=8:=by simp[nameOk]at h;exact h.1.2
 have hm:l.length<=maxLen:=by unfold maxLen;omega
 go_enter Tryz.func26,Tryz.ntmps26;go_wp2_with (first|(go_at_call 65;refine(Ec l hm _).mono ?_;rintro e w' ⟨rfl,hb⟩;rw[h])|(go_at_call 66;refine(Eg l hm 8 (by omega) (by omega) _).mono ?_;rintro e w2 ⟨rfl,hb2⟩))
 go_ret2
 exact⟨rfl,bt hb hb2⟩
theorem Lz (l:List UInt8)(hm:l.length<=maxLen)(h:nameOk l=false)(w:World):
 Calls Tryz.prog 26 #[.string (bs l)] w fun e w'=>e=.returned (.tuple #[.string (bs []),.int .i64 19])/\Below w.heap.size w w':=by
 go_enter Tryz.func26,Tryz.ntmps26;go_wp2_with (go_at_call 65;refine(Ec l hm _).mono ?_;rintro e w' ⟨rfl,hb⟩;rw[h])
 go_ret2
 exact⟨rfl,hb⟩
def takeR (l:List UInt8)(k:Int):Nat×List UInt8×Int:=if k<1\/8<k then(0,[],25)else if(l.length:Int)<k then(0,[],22)else(un (l.take k.toNat),l.drop k.toNat,0)
def padR (l:List UInt8)(k:Int):List UInt8×Int:=if k<l.length\/65536<k then([],11)else(l++List.replicate (k.toNat-l.length) 0,0)
theorem ED (l:List UInt8)(k:Nat)(hk:k<=8):un (l.take k)<256^k:=by
 refine Nat.lt_of_lt_of_le (Bm _) (Nat.pow_le_pow_right (by omega) (by simp;omega))
theorem PE (l:List UInt8)(j:Nat)(h:j<l.length):un (l.take (j+1))=un (l.take j)*256+l[j].toNat:=by
 rw[List.take_succ_eq_append_getElem h,PD]
theorem Pz (l:List UInt8)(j:Nat)(hj:j<8):un (l.take j)<72057594037927936:=by
 refine Nat.lt_of_lt_of_le (ED l j (by omega)) ?_;refine Nat.le_trans (Nat.pow_le_pow_right (by omega) (show j<=7 by omega)) (by omega)
theorem NY (l:List UInt8)(hl:l.length<=maxLen)(k:Int)(h:k<1\/8<k)(w:World):
 Calls Tryz.prog 96 #[.string (bs l),.int .i64 k] w fun e w'=>e=.returned (.tuple #[.int .u64 0,.string (bs []),.int .i64 25])/\w=w':=by
 unfold maxLen at hl
 rcases h with h|h
 · go_enter Tryz.func96,Tryz.ntmps96
   go_wp2
   go_ret3
   exact⟨rfl,rfl⟩
 · have h0:¬k<1:=by omega
   go_enter Tryz.func96,Tryz.ntmps96
   go_wp2
   go_ret3
   exact⟨rfl,rfl⟩
theorem N0 (l:List UInt8)(hl:l.length<=maxLen)(k:Int)(h1:1<=k)(h2:k<=8)(h:(l.length:Int)<k)(w:World):
 Calls Tryz.prog 96 #[.string (bs l),.int .i64 k] w fun e w'=>e=.returned (.tuple #[.int .u64 0,.string (bs []),.int .i64 22])/\w=w':=by
 unfold maxLen at hl;go_enter Tryz.func96,Tryz.ntmps96
 go_wp2
 go_ret3
 exact⟨rfl,rfl⟩
theorem NZ (l:List UInt8)(hl:l.length<=maxLen)(k:Int)(h1:1<=k)(h2:k<=8)(h:k<=(l.length:Int))(w:World):
 Calls Tryz.prog 96 #[.string (bs l),.int .i64 k] w fun e w'=>e=.returned (.tuple #[.int .u64 (un (l.take k.toNat)),.string (bs (l.drop k.toNat)),.int .i64 0])/\Below w.heap.size w w':=by
 unfold maxLen at hl;obtain⟨k,rfl⟩:=Int.eq_ofNat_of_zero_le (show 0<=k by omega);rw[Int.toNat_natCast];go_enter Tryz.func96,Tryz.ntmps96;go_wp2_with fail
 go_loop [7,8] (fun n i=>∃j:Nat,j<=k/\i=.int .i64 j/\n=.int .u64 (un (l.take j))) (fun _ i=>k-(intOf i).toNat)
 case atStart=>exact⟨0,by omega,rfl,rfl⟩
 case round=>
  obtain⟨j,hj,rfl,rfl⟩:=hrel;by_cases hlt:j<k
  · have hu:=Pz l j (by omega);have hjl:j<l.length:=by omega
    have hby:=(l[j]'(by omega)).toNat_lt;have Hun:=hid (PE l j (by omega));go_wp2_with fail
    go_round
    case rel=>exact⟨j+1,by omega,by go_num,by rw[Hun.out];go_num⟩
    case measure=>simp[intOf];omega
  · obtain rfl:j=k:=by omega
    go_wp2_with fail
    try go_quiet (fail)
    go_wp2
    go_ret3
    exact⟨by simp,CR _ _⟩
theorem NO (l:List UInt8)(hl:l.length<=maxLen)(k:Int)(h:k<l.length\/65536<k)(w:World):
 Calls Tryz.prog 87 #[.string (bs l),.int .i64 k] w fun e w'=>e=.returned (.tuple #[.string (bs []),.int .i64 11])/\w=w':=by
 unfold maxLen at hl
 rcases h with h|h
 · go_enter Tryz.func87,Tryz.ntmps87
   go_wp2
   go_ret2
   exact⟨rfl,rfl⟩
 · by_cases h0:k<l.length
   · go_enter Tryz.func87,Tryz.ntmps87
     go_wp2
     go_ret2
     exact⟨rfl,rfl⟩
   · go_enter Tryz.func87,Tryz.ntmps87
     go_wp2
     go_ret2
     exact⟨rfl,rfl⟩
theorem Et (l:List UInt8)(hl:l.length<=maxLen)(k:Int)(h:(l.length:Int)<=k)(h2:k<=65536)(w:World):
 Calls Tryz.prog 87 #[.string (bs l),.int .i64 k] w fun e w'=>e=.returned (.tuple #[.string (bs (l++List.replicate (k.toNat-l.length) 0)),.int .i64 0])/\Below w.heap.size w w':=by
 unfold maxLen at hl;obtain⟨k,rfl⟩:=Int.eq_ofNat_of_zero_le (show 0<=k by omega);rw[Int.toNat_natCast];obtain⟨i0,hi,hz0,hz1,hz2⟩:=info_parts Tryz.infoByte;have hmk:=fun W=>Cf (P:=Tryz.prog) 139 5 i0 (.int .u8 0) Tryz.underlying139 hi hz0 .i64 .i64 (k-l.length) (k-l.length) (Nat.le_refl _) (by rw[hz2];omega) (by omega) W
 rw[hz1,Nat.mul_one,show((k-l.length:Nat):Int)=(k:Int)-l.length by omega]at hmk;have hcv:=run_convert_bytes_back (P:=Tryz.prog) (w.alloc (.cells (madeCells #[.int .u8 0] (k-l.length)) 5)) 139 9 5 ⟨w.heap.size,0,none⟩ (k-l.length) (List.replicate (k-l.length) 0) Tryz.underlying139 Tryz.underlying5 Tryz.underlying9 (fun j hj=>by
  have hj':j<k-l.length:=by simpa using hj
  have e:(Addr.add ⟨w.heap.size,0,none⟩ j)=⟨w.heap.size,j,none⟩:=by simp only[Addr.add];split<;>simp_all
  rw[e,(Blk.new w _ _).cell j,<-Array.getElem?_toList,toList_madeCells_one];simp[hj'])
 rw[List.length_replicate,Ad]at hcv;go_enter Tryz.func87,Tryz.ntmps87;go_wp2_with fail
 try go_quiet (fail)
 try go_wp2
 go_ret2
 exact⟨by simp,Yz _⟩
theorem NP (x size:Int)(w:World)(h:size<1\/8<size):
 Calls Tryz.prog 86 #[.int .u64 x,.int .i64 size] w fun e w'=>e=.returned (.string (bs []))/\w=w':=by
 rcases h with h|h
 · go_enter Tryz.func86,Tryz.ntmps86
   go_wp2
   go_ret
   exact⟨rfl,rfl⟩
 · have h0:¬size<1:=by omega
   go_enter Tryz.func86,Tryz.ntmps86
   go_wp2
   go_ret
   exact⟨rfl,rfl⟩
theorem BI (x k:Nat)(hx:x<18446744073709551616)(h1:1<=k)(h2:k<=8)(w:World):
 Calls Tryz.prog 86 #[.int .u64 x,.int .i64 k] w fun e w'=>e=.returned (.string (bs (be k x)))/\Below w.heap.size w w':=by
 obtain⟨i0,hi,hz0,hz1,hz2⟩:=info_parts Tryz.infoByte;have hmk:=fun W=>Cf (P:=Tryz.prog) 139 5 i0 (.int .u8 0) Tryz.underlying139 hi hz0 .i64 .i64 k k (Nat.le_refl _) (by rw[hz2];omega) (by omega) W
 rw[hz1,Nat.mul_one]at hmk;go_enter Tryz.func86,Tryz.ntmps86;go_wp2_with fail
 have b1:=Blk.new w 5 (madeCells #[.int .u8 0] k);have hB0:=Yz (W:=w) (.cells (madeCells #[.int .u8 0] k) 5);have hmade:madeCells #[.int .u8 0] k=byteCells (List.replicate k 0):=by
  apply Array.toList_inj.1
  rw[toList_madeCells_one];simp[byteCells]
 rw[hmade]at b1 hB0;simp only[Value.cells]at*;rw[hmade];go_loopw [6] (fun i W=>∃j:Nat,j<=k/\i=.int .i64 j/\Blk W w.heap.size 5 (byteCells (List.replicate (k-j) 0++be j x))/\Below w.heap.size w W) (fun i _=>k-(intOf i).toNat)
 case atStart=>exact⟨0,by omega,rfl,by simpa[be]using b1,hB0⟩
 case round=>
  obtain⟨j,hj,rfl,hblk,hB⟩:=hrel;by_cases hlt:j<k
  · have f2:=hblk.frozen (k-1-j);have c2:∃v2,wr.cell? ⟨w.heap.size,k-1-j,none⟩=some v2:=by
     rw[hblk.cell];exact⟨_,Array.getElem?_eq_getElem (by simp[byteCells,Aq];omega)⟩
    obtain⟨v2,c2⟩:=c2;clear b1 hB0 hmade hmk;go_wp2_with fail
    go_roundw
    case rel=>
     refine⟨j+1,by omega,by go_num,?_,hB.setCell (p:=⟨w.heap.size,k-1-j,none⟩) (Nat.le_refl _) _⟩;have h:=hblk.set (k-1-j) (.int .u8 ((x:Int)/2^(8*j)%256));have e:(byteCells (List.replicate (k-j) 0++be j x)).setIfInBounds (k-1-j) (.int .u8 ((x:Int)/2^(8*j)%256))=byteCells (List.replicate (k-(j+1)) 0++be (j+1) x):=by
      have e1:k-j=(k-(j+1))+1:=by omega
      have e2:Value.int .u8 ((x:Int)/2^(8*j)%256)=Value.int .u8 (UInt8.ofNat (x/256^j)).toNat:=by
       have e0:(2:Int)^(8*j)=((256^j:Nat):Int):=by
        rw[show(256:Nat)=2^8 from rfl,<-Nat.pow_mul,Int.natCast_pow];rfl
       rw[e0,<-Int.natCast_ediv];simp
      rw[e2,e1,List.replicate_succ',be,byteCells,byteCells,List.append_assoc,List.map_append,List.setIfInBounds_toArray,List.set_append_right _ _ (by simp;omega)];have e3:k-1-j-(List.map (fun b:UInt8=>Value.int .u8 b.toNat) (List.replicate (k-(j+1)) 0)).length=0:=by rw[List.length_map,List.length_replicate];omega
      rw[e3];simp
     rw[e]at h;exact h
    case measure=>simp[intOf];omega
  · obtain rfl:j=k:=by omega
    have hcv:=run_convert_bytes_back (P:=Tryz.prog) wr 139 9 5 ⟨w.heap.size,0,none⟩ j (be j x) Tryz.underlying139 Tryz.underlying5 Tryz.underlying9 (fun i hi=>by
     have e:(Addr.add ⟨w.heap.size,0,none⟩ i)=⟨w.heap.size,i,none⟩:=by simp only[Addr.add];split<;>simp_all
     rw[e,hblk.cell i];simp[byteCells,hi])
    rw[Aq,Ad]at hcv;go_wp2_with fail
    go_ret
    exact⟨rfl,hB⟩
theorem LV (l:List UInt8)(hl:l.length<=maxLen)(k:Int)(w:World):
 Calls Tryz.prog 66 #[.string (bs l),.int .i64 k] w fun e w'=>e=.returned (.tuple #[.string (bs (padR l k).1),.int .i64 (padR l k).2])/\Below w.heap.size w w':=by
 by_cases h:k<l.length\/65536<k
 · refine(LW l hl k h w).mono ?_;rintro e w' ⟨rfl,rfl⟩;exact⟨by rw[padR,if_pos h],Below.refl _ _⟩
 · refine(Eg l hl k (by omega) (by omega) w).mono ?_;rintro e w' ⟨rfl,hb⟩;exact⟨by rw[padR,if_neg h],hb⟩
theorem Do (l:List UInt8)(hl:l.length<=maxLen)(k:Int)(w:World):
 Calls Tryz.prog 96 #[.string (bs l),.int .i64 k] w fun e w'=>e=.returned (.tuple #[.int .u64 (takeR l k).1,.string (bs (takeR l k).2.1),.int .i64 (takeR l k).2.2])/\Below w.heap.size w w':=by
 by_cases h:k<1\/8<k
 · refine(NY l hl k h w).mono ?_;rintro e w' ⟨rfl,rfl⟩;exact⟨by rw[takeR,if_pos h];rfl,Below.refl _ _⟩
 · by_cases h2:(l.length:Int)<k
   · refine(N0 l hl k (by omega) (by omega) h2 w).mono ?_;rintro e w' ⟨rfl,rfl⟩;exact⟨by rw[takeR,if_neg h,if_pos h2];rfl,Below.refl _ _⟩
   · refine(NZ l hl k (by omega) (by omega) (by omega) w).mono ?_;rintro e w' ⟨rfl,hb⟩;exact⟨by rw[takeR,if_neg h,if_neg h2],hb⟩
theorem NN (l:List UInt8)(hl:l.length<=maxLen)(k:Int)(w:World):
 Calls Tryz.prog 87 #[.string (bs l),.int .i64 k] w fun e w'=>e=.returned (.tuple #[.string (bs (padR l k).1),.int .i64 (padR l k).2])/\Below w.heap.size w w':=by
 by_cases h:k<l.length\/65536<k
 · refine(NO l hl k h w).mono ?_;rintro e w' ⟨rfl,rfl⟩;exact⟨by rw[padR,if_pos h],Below.refl _ _⟩
 · refine(Et l hl k (by omega) (by omega) w).mono ?_;rintro e w' ⟨rfl,hb⟩;exact⟨by rw[padR,if_neg h],hb⟩
theorem Dn (x size:Int)(h0:0<=x)(hx:x<18446744073709551616)(w:World):
 Calls Tryz.prog 86 #[.int .u64 x,.int .i64 size] w fun e w'=>e=.returned (.string (bs (putS x.toNat size)))/\Below w.heap.size w w':=by
 obtain⟨x,rfl⟩:=Int.eq_ofNat_of_zero_le h0;by_cases h:1<=size/\size<=8
 · obtain⟨k,rfl⟩:=Int.eq_ofNat_of_zero_le (show 0<=size by omega);refine(BI x k (by omega) (by omega) (by omega) w).mono ?_;rintro e w' ⟨rfl,hb⟩;exact⟨by rw[putS,if_pos h];simp,hb⟩
 · refine(NP x size w (by omega)).mono ?_;rintro e w' ⟨rfl,rfl⟩;exact⟨by rw[putS,if_neg h],Below.refl _ _⟩
def AS (l:List UInt8):List UInt8:=Lib.trimRightB l 0
theorem J2 (n:Nat)(l:List UInt8):(List.replicate n 0++l).dropWhile (· ==0)=l.dropWhile (· ==0):=by
 induction n with
 |zero=>rfl
 |succ n ih=>rw[List.replicate_succ,List.cons_append,List.dropWhile_cons];simp[ih]
theorem J1 {l:List UInt8}(h:∀x∈l,x≠0):l.dropWhile (· ==0)=l:=by
 cases l with
 |nil=>rfl
 |cons a l=>rw[List.dropWhile_cons,if_neg (by simpa using h a (by simp))]
theorem Pq {s:List UInt8}(h:∀x∈s,x≠0)(n:Nat):AS (s++List.replicate n 0)=s:=by
 rw[AS,Lib.trimRightB,List.reverse_append,List.reverse_replicate,J2,J1 (fun x hx=>h x (by simpa using hx)),List.reverse_reverse]
theorem Pf (l:List UInt8):l.takeWhile (· ==0)=List.replicate (l.takeWhile (· ==0)).length 0:=by
 induction l with
 |nil=>rfl
 |cons a l ih=>
  rw[List.takeWhile_cons]
  split
  · rename_i h
    have:a=0:=by simpa using h
    subst this;rw[List.length_cons,List.replicate_succ,<-ih]
  · rfl
theorem HU (l:List UInt8):∃n,l=AS l++List.replicate n 0:=by
 refine⟨(l.reverse.takeWhile (· ==0)).length,?_⟩;have h:=List.takeWhile_append_dropWhile (p:=(· ==(0:UInt8))) (l:=l.reverse);have h2:=congrArg List.reverse h;rw[List.reverse_reverse,List.reverse_append]at h2;rw[AS,Lib.trimRightB]
 conv=>lhs;rw[<-h2]
 congr 1
 rw[Pf l.reverse,List.reverse_replicate,List.length_replicate]
theorem C3 {l:List UInt8}(h:nameOk l=true):l.length<=8:=by
 simp only[nameOk,Bool.and_eq_true,decide_eq_true_eq]at h;exact h.1.2
def nameR (l:List UInt8):List UInt8×Int:=if nameOk l=true then(l++List.replicate (8-l.length) 0,0)else([],19)
def toNameR (l:List UInt8):List UInt8×Int:=if l.length≠8 then([],11)else if nameOk (AS l)=true then(AS l,0)else([],19)
theorem F7 (l:List UInt8)(hm:l.length<=maxLen)(w:World):
 Calls Tryz.prog 26 #[.string (bs l)] w fun e w'=>e=.returned (.tuple #[.string (bs (nameR l).1),.int .i64 (nameR l).2])/\Below w.heap.size w w':=by
 by_cases h:nameOk l=true
 · refine(LA l h w).mono ?_;rintro e w' ⟨rfl,hb⟩;exact⟨by rw[nameR,if_pos h],hb⟩
 · refine(Lz l hm (by simpa using h) w).mono ?_;rintro e w' ⟨rfl,hb⟩;exact⟨by rw[nameR,if_neg h],hb⟩
theorem Po (l:List UInt8)(hm:l.length<=maxLen)(w:World):
 Calls Tryz.prog 140 #[.string (bs l)] w fun e w'=>e=.returned (.tuple #[.string (bs (toNameR l).1),.int .i64 (toNameR l).2])/\Below w.heap.size w w':=by
 have hm':=hm;unfold maxLen at hm';by_cases h1:l.length=8
 · have htr:=fun W=>Tryz.strings_TrimRight_one (bs l) 0 (by decide) W (by rw[Ac];exact hm')
   rw[AY]at htr;have hlt:(AS l).length<=maxLen:=by
    obtain⟨n,hn⟩:=HU l;have:l.length=(AS l).length+n:=by conv=>lhs;rw[hn];simp
    omega
   have hnm:=fun W=>Ec (AS l) hlt W
   have Hw:=hid (show toNameR l=if nameOk (AS l)=true then(AS l,0)else([],19) by rw[toNameR,if_neg (by omega)]);rw[show(⟨(Lib.trimRightB l 0).toArray⟩:ByteArray)=bs (AS l)from rfl]at htr;generalize AS l=t at*;cases hk:nameOk t with
   |true=>
    rw[hk]at hnm Hw;go_enter Tryz.func140,Tryz.ntmps140;go_wp2_with fail
    go_at_call 173;refine(htr _).mono ?_;rintro e w1 ⟨rfl,rfl⟩;go_wp2_with fail
    go_at_call 65;refine(hnm _).mono ?_;rintro e w2 ⟨rfl,hb2⟩;go_wp2_with fail
    go_ret2
    exact⟨by rw[Hw.out];rfl,hb2⟩
   |false=>
    rw[hk]at hnm Hw;go_enter Tryz.func140,Tryz.ntmps140;go_wp2_with fail
    go_at_call 173;refine(htr _).mono ?_;rintro e w1 ⟨rfl,rfl⟩;go_wp2_with fail
    go_at_call 65;refine(hnm _).mono ?_;rintro e w2 ⟨rfl,hb2⟩;go_wp2_with fail
    go_ret2
    exact⟨by rw[Hw.out];rfl,hb2⟩
 · have Hw:=hid (show toNameR l=([],11) by rw[toNameR,if_pos h1]);have n0:((l.length:Int) !=8)=true:=by simp;omega
   go_enter Tryz.func140,Tryz.ntmps140;go_wp2_with fail
   go_ret2
   exact⟨by rw[Hw.out];rfl,Below.refl _ _⟩
end
section
structure Sn where
 id:Nat
 l1:Int
 name:List UInt8
deriving DecidableEq
namespace Sn
def zero:Sn:=⟨0,0,[]⟩
def ok (s:Sn):Bool:=decide (s=zero)||(decide (s.id≠0)&&(decide (0<=s.l1)&&decide (s.l1<256))&&nameOk s.name)
def bytes (s:Sn):List UInt8:=if s=zero then List.replicate 16 0 else be 4 s.id++be 2 s.l1.toNat++[0,0]++(s.name++List.replicate (8-s.name.length) 0)
def of (b:List UInt8):Sn:=if b=List.replicate 16 0 then zero else⟨un (b.take 4),un (cut b 4 2),(toNameR (b.drop 8)).1⟩
theorem Ef {s:Sn}(h:s.ok=true):s=zero\/(s≠zero/\s.id≠0/\(0<=s.l1/\s.l1<256)/\nameOk s.name=true):=by
 by_cases hz:s=zero
 · exact .inl hz
 · refine .inr ⟨hz,?_⟩;simp[ok,hz]at h;exact⟨h.1.1,h.1.2,h.2⟩
theorem bytes_length {s:Sn}(h:s.ok=true):s.bytes.length=16:=by
 rcases Ef h with rfl|⟨hz,h1,h2,h3⟩
 · rfl
 · have:=C3 h3;rw[bytes,if_neg hz];simp[Aq];omega
def good (b:List UInt8):Bool:=(of b).ok&&decide ((of b).bytes=b)
end Sn
structure Dm where
 name:List UInt8
 use:Bool
 bits:List Bool
deriving DecidableEq
def bitRow (f:Nat->Bool)(b0:List UInt8)(n:Nat):List UInt8:=(List.range n).foldl (fun b k=>if f k then b.set (8+k/8) (UInt8.ofNat ((b.getD (8+k/8) 0).toNat ||| 2^(k%8)))else b) b0
theorem DB (f:Nat->Bool)(b0:List UInt8)(n:Nat):bitRow f b0 (n+1)=if f n then(bitRow f b0 n).set (8+n/8) (UInt8.ofNat (((bitRow f b0 n).getD (8+n/8) 0).toNat ||| 2^(n%8)))else bitRow f b0 n:=by
 unfold bitRow;rw[List.range_succ,List.foldl_append];rfl
theorem DA (f:Nat->Bool)(b0:List UInt8)(n:Nat):(bitRow f b0 n).length=b0.length:=by
 induction n with
 |zero=>rfl
 |succ n ih=>rw[DB];split<;>simp[ih]
theorem EW (a:UInt8)(k:Nat)(hk:k<8):(UInt8.ofNat (a.toNat ||| 2^k)).toNat=a.toNat ||| 2^k:=by
 have h1:a.toNat ||| 2^k<256:=Nat.or_lt_two_pow (n:=8) a.toNat_lt (Nat.pow_lt_pow_right (by omega) hk);rw[UInt8.toNat_ofNat',Nat.mod_eq_of_lt (by omega)]
namespace Dm
def zero:Dm:=⟨[],false,List.replicate 64 false⟩
def ok (m:Dm):Bool:=decide (m=zero)||nameOk m.name
def useByte (u:Bool):UInt8:=if u then 1 else 0
def flags (u:Bool):List UInt8:=useByte u::List.replicate 15 0
def tail (m:Dm):List UInt8:=bitRow (fun k=>m.bits.getD k false) (flags m.use) 64
def bytes (m:Dm):List UInt8:=if m=zero then List.replicate 64 0 else Au ((m.name++List.replicate (8-m.name.length) 0)++m.tail)
def bitAt (b:List UInt8)(k:Nat):Bool:=(b.getD (16+k/8) 0).toNat.testBit (k%8)
def of (b:List UInt8):Dm:=if b=List.replicate 64 0 then zero else⟨(toNameR (b.take 8)).1,decide (b.getD 8 0=1),(List.range 64).map (bitAt b)⟩
theorem flags_length (u:Bool):(flags u).length=16:=by simp[flags]
theorem tail_length (m:Dm):m.tail.length=16:=by rw[tail,DA,flags_length]
theorem Ef {m:Dm}(h:m.ok=true):m=zero\/(m≠zero/\nameOk m.name=true):=by
 by_cases hz:m=zero
 · exact .inl hz
 · refine .inr ⟨hz,?_⟩;simpa[ok,hz]using h
theorem bytes_length {m:Dm}(h:m.ok=true):m.bytes.length=64:=by
 rcases Ef h with rfl|⟨hz,h3⟩
 · decide
 · have:=C3 h3;rw[bytes,if_neg hz,Ct];simp[tail_length];omega
theorem bits_length (b:List UInt8):(of b).bits.length=64:=by
 unfold of
 split
 · decide
 · simp
def good (b:List UInt8):Bool:=(of b).ok&&decide ((of b).bytes=b)
end Dm
namespace Pn
variable {D:Dk} {L X:Pn}
def dmGet (D:Dk)(L:Pn)(i:Nat):Dm×Int:=
 if(look D L (4+i)).2≠0 then(Dm.zero,(look D L (4+i)).2)else if Dm.good (look D L (4+i)).1=true then(Dm.of (look D L (4+i)).1,0)else(Dm.zero,14)
def maps (D:Dk)(L:Pn):List Dm×Int:=allN (dmGet D L) 2
def dmSet (L:Pn)(i:Int)(m:Dm):Pn×Int:=if i<0\/2<=i then(L,10)else if m.ok=false then(L,25)else L.set (4+i) m.bytes
def rtSet (L:Pn)(l:Int)(n:Nat):Pn×Int:=if l<0\/256<=l then(L,10)else L.set 1 (rtHead l.toNat n)
end Pn
end
section
structure Im where
 d:Dk
 g:Int
 h:Nat
 j:Jr
 maps:List Dm
 br:Bool
namespace Im
def nameds:List Dm->Bool
 |[]=>true
 |m::r=>nameOk m.name&&(m.use&&r.all fun o=>nameOk o.name&&(o.use&&decide (m.name≠o.name)))
def fit (x:Im):Bool:=geomFit x.g x.h&&(x.d.fit&&(decide (x.d.sz=96+2*x.h)&&(jrFit x.j&&(decide (x.maps.length<=2)&&nameds x.maps))))
where geomFit (g:Int) (h:Nat):Bool:=decide (0<g)&&(decide (g<=64)&&(decide (8<=h)&&decide (h<=256)))
structure Ok (x:Im):Prop where
 d:x.d.fit=true
 g:0<x.g/\x.g<=64
 h:8<=x.h/\x.h<=256
 seq:x.j.seq<18446744073709551615
 pos: -9223372036854775808<=x.j.pos/\x.j.pos<=9223372036854775807
 maps:x.maps.length<=2
 bits:∀m∈x.maps,m.bits.length=64
def markM (k:Int)(l:List Dm):List Dm:=if k<0\/64<=k then l else l.map fun m=>{m with bits:=m.bits.set k.toNat true}
def mark (x:Im)(k:Int):Im:={x with maps:=markM k x.maps}
def clus (D:Dk)(k:Int):List UInt8×Int:=
 if(D.read (96+2*k)).2≠0 then([],(D.read (96+2*k)).2)else if(D.read (96+2*k+1)).2≠0 then([],(D.read (96+2*k+1)).2)else((D.read (96+2*k)).1++(D.read (96+2*k+1)).1,0)
def rd (D:Dk)(l1 u:Int):List UInt8×Int:=
 if(Pn.tabFind D Pn.none l1 u).2≠0 then([],(Pn.tabFind D Pn.none l1 u).2)else if(Pn.tabFind D Pn.none l1 u).1.1=1 then clus D (Pn.tabFind D Pn.none l1 u).1.2 else(List.replicate 128 0,0)
noncomputable def done (x:Im) (L:Pn):Im×Int:=
 if(jrCommit x.d x.j L).2.2≠0 then({x with d:=(jrCommit x.d x.j L).1,br:=true},(jrCommit x.d x.j L).2.2)else({x with d:=(jrCommit x.d x.j L).1,j:=(jrCommit x.d x.j L).2.1},0)
def placeAt (k off:Int)(s:List UInt8)(i:Nat)(D:Dk):Dk×Int:=
 if min (off+s.length) (((i:Int)+1)*64)<=max off (i*64)then(D,0)else if(D.read (96+2*k+i)).2≠0 then(D,(D.read (96+2*k+i)).2)
 else D.write (96+2*k+i) (over (D.read (96+2*k+i)).1 (max off (i*64)-i*64).toNat ((s.take (min (off+s.length) (((i:Int)+1)*64)-off).toNat).drop (max off (i*64)-off).toNat))
def place (D:Dk)(k off:Int)(s:List UInt8):Dk×Int:=Dk.next (placeAt k off s 0 D) (placeAt k off s 1)
def fill (D:Dk)(k:Int)(b:List UInt8):Dk×Int:=Dk.next (D.write (96+2*k) (b.take 64)) fun E=>E.write (96+2*k+1) (b.drop 64)
noncomputable def writeNew (x:Im) (l1 u off:Int) (s:List UInt8):Im×Int:=
 if(Pn.alTake x.d Pn.none x.h).2.2≠0 then(x,(Pn.alTake x.d Pn.none x.h).2.2)else if(rd x.d l1 u).2≠0 then(x,(rd x.d l1 u).2)
 else if(fill x.d (Pn.alTake x.d Pn.none x.h).2.1 (over (rd x.d l1 u).1 off.toNat s)).2≠0 then({x with d:=(fill x.d (Pn.alTake x.d Pn.none x.h).2.1 (over (rd x.d l1 u).1 off.toNat s)).1},(fill x.d (Pn.alTake x.d Pn.none x.h).2.1 (over (rd x.d l1 u).1 off.toNat s)).2)
 else pointed {x with d:=(fill x.d (Pn.alTake x.d Pn.none x.h).2.1 (over (rd x.d l1 u).1 off.toNat s)).1} (Pn.alTake x.d Pn.none x.h).1 u 1 (Pn.alTake x.d Pn.none x.h).2.1
where pointed (x:Im) (L:Pn) (u K A:Int):Im×Int:=if(Pn.ptPoint x.d L x.g x.h u K A).2≠0 then(x,(Pn.ptPoint x.d L x.g x.h u K A).2)else done x (Pn.ptPoint x.d L x.g x.h u K A).1
noncomputable def writeIn (x:Im) (u off:Int) (s:List UInt8):Im×Int:=
 if(Pn.rtGet x.d Pn.none).2≠0 then(x,(Pn.rtGet x.d Pn.none).2)else if(Pn.tabFind x.d Pn.none (Pn.rtGet x.d Pn.none).1.1 u).2≠0 then(x,(Pn.tabFind x.d Pn.none (Pn.rtGet x.d Pn.none).1.1 u).2)
 else if(Pn.tabFind x.d Pn.none (Pn.rtGet x.d Pn.none).1.1 u).1.1≠1 then writeNew x (Pn.rtGet x.d Pn.none).1.1 u off s
 else if(Pn.cntGet x.d Pn.none (Pn.tabFind x.d Pn.none (Pn.rtGet x.d Pn.none).1.1 u).1.2).2≠0 then(x,(Pn.cntGet x.d Pn.none (Pn.tabFind x.d Pn.none (Pn.rtGet x.d Pn.none).1.1 u).1.2).2)
 else if(Pn.cntGet x.d Pn.none (Pn.tabFind x.d Pn.none (Pn.rtGet x.d Pn.none).1.1 u).1.2).1<=1 then
  ({x with d:=(place x.d (Pn.tabFind x.d Pn.none (Pn.rtGet x.d Pn.none).1.1 u).1.2 off s).1},(place x.d (Pn.tabFind x.d Pn.none (Pn.rtGet x.d Pn.none).1.1 u).1.2 off s).2)
 else writeNew x (Pn.rtGet x.d Pn.none).1.1 u off s
noncomputable def write (x:Im) (u off:Int) (s:List UInt8):Im×Int:=
 if x.br=true then(x,24)else if(u<0\/x.g<=u)\/off<0\/128<s.length\/128-(s.length:Int)<off then(x,10)else if s=[]then(x,0)else writeIn (x.mark u) u off s
noncomputable def wipeIn (x:Im) (u:Int) (hole:Bool):Im×Int:=
 if(Pn.rtGet x.d Pn.none).2≠0 then(x,(Pn.rtGet x.d Pn.none).2)else if(Pn.tabFind x.d Pn.none (Pn.rtGet x.d Pn.none).1.1 u).2≠0 then(x,(Pn.tabFind x.d Pn.none (Pn.rtGet x.d Pn.none).1.1 u).2)
 else if(Pn.tabFind x.d Pn.none (Pn.rtGet x.d Pn.none).1.1 u).1=(if hole then(0,0)else(2,0))then(x,0)else writeNew.pointed x Pn.none u (if hole then 0 else 2) 0
noncomputable def wipe (x:Im) (u:Int) (hole:Bool):Im×Int:=if x.br=true then(x,24)else if u<0\/x.g<=u then(x,10)else wipeIn (x.mark u) u hole
def cutGo:Nat->Int->Int->List (Int×Int×Int)
 |0,_,_=>[]
 |f+1,a,n=>if n<=0 then []else(a/128,a%128,min n (128-a%128))::cutGo f (a+min n (128-a%128)) (n-min n (128-a%128))
def cuts (a n:Int):List (Int×Int×Int):=if a<0\/n<0\/1073741824<a\/65536<n then []else cutGo n.toNat a n
def within (g a n:Int):Bool:=decide (0<=a)&&(decide (0<=n)&&(decide (n<=128*g)&&decide (a<=128*g-n)))
noncomputable def clearStep (hole:Bool) (X:Im×Int) (p:Int×Int×Int):Im×Int:=
 if X.2≠0 then X else if p.2.2=128 then wipe X.1 p.1 hole else write X.1 p.1 p.2.1 (List.replicate p.2.2.toNat 0)
noncomputable def clear (x:Im) (a n:Int) (hole:Bool):Im×Int:=if x.br=true then(x,24)else if within x.g a n=false then(x,10)else(cuts a n).foldl (clearStep hole) (x,0)
theorem Lr (k:Int)(l:List Dm):(markM k l).length=l.length:=by unfold markM;split<;>simp
theorem Lq {k:Int}{l:List Dm}(h:∀m∈l,m.bits.length=64):∀m∈markM k l,m.bits.length=64:=by
 intro m hm;unfold markM at hm
 split at hm
 · exact h m hm
 · obtain⟨o,ho,rfl⟩:=List.mem_map.1 hm;simpa using h o ho
theorem Ok.mark {x:Im}(h:x.Ok)(k:Int):(x.mark k).Ok:=⟨h.d,h.g,h.h,h.seq,h.pos,by show(markM k x.maps).length<=2;rw[Lr];exact h.maps,Lq h.bits⟩
theorem Ok.withD {x:Im}(h:x.Ok){D:Dk}(hD:D.fit=true):({x with d:=D}:Im).Ok:=⟨hD,h.g,h.h,h.seq,h.pos,h.maps,h.bits⟩
theorem FN {D:Dk}{j:Jr}{L:Pn}(h:(jrCommit D j L).2.2=0):(jrCommit D j L).2.1=j\/(j.seq<4611686018427387904/\(jrCommit D j L).2.1.seq=j.seq+1/\0<=(jrCommit D j L).2.1.pos/\(jrCommit D j L).2.1.pos<=10000):=by
 unfold jrCommit at h ⊢
 split
 · exact .inl rfl
 split
 · exact .inl rfl
 rename_i h1 h2
 rw[if_neg h1,if_neg h2]at h
 split
 · exact .inl rfl
 · right
   have hl:=Dx (⟨j.seq,L⟩:Tx);refine⟨by omega,rfl,?_⟩;show 0<=jrAt j L+((jrRows j L).length:Int)/\jrAt j L+((jrRows j L).length:Int)<=10000;have hr:(jrRows j L).length<=27:=hl;have:=CV (pos:=j.pos) (size:=((jrRows j L).length:Int)) (by omega) (by omega);unfold jrAt;omega
theorem Ok.done {x:Im}(h:x.Ok)(L:Pn):(x.done L).1.Ok/\(x.done L).1.maps=x.maps/\(x.done L).1.g=x.g/\(x.done L).1.h=x.h:=by
 have hf:=K8 h.d x.j L;unfold Im.done
 split
 · exact⟨⟨hf,h.g,h.h,h.seq,h.pos,h.maps,h.bits⟩,rfl,rfl,rfl⟩
 · rename_i h0
   refine⟨⟨hf,h.g,h.h,?_,?_,h.maps,h.bits⟩,rfl,rfl,rfl⟩
   · have:=h.seq
     rcases FN (Classical.not_not.1 h0)with e|⟨e1,e2,_⟩
     · show(jrCommit x.d x.j L).2.1.seq<_;rw[e];exact h.seq
     · show(jrCommit x.d x.j L).2.1.seq<_;omega
   · have:=h.pos
     rcases FN (Classical.not_not.1 h0)with e|⟨_,_,e1,e2⟩
     · show-9223372036854775808<=(jrCommit x.d x.j L).2.1.pos/\_;rw[e];exact h.pos
     · show-9223372036854775808<=(jrCommit x.d x.j L).2.1.pos/\(jrCommit x.d x.j L).2.1.pos<=_;omega
structure Left (x:Im) (l:List Dm) (y:Im):Prop where
 ok:y.Ok
 maps:y.maps=l
 g:y.g=x.g
 h:y.h=x.h
theorem Left.refl {x:Im}(h:x.Ok):Left x x.maps x:=⟨h,rfl,rfl,rfl⟩
theorem Left.done {x y:Im}{l:List Dm}(h:Left x l y)(L:Pn):Left x l (y.done L).1:=by
 obtain⟨a,b,c,d⟩:=h.ok.done L;exact⟨a,b.trans h.maps,c.trans h.g,d.trans h.h⟩
theorem Left.withD {x y:Im}{l:List Dm}(h:Left x l y){D:Dk}(hD:D.fit=true):Left x l {y with d:=D}:=⟨h.ok.withD hD,h.maps,h.g,h.h⟩
theorem Left.pointed {x y:Im}{l:List Dm}(h:Left x l y)(L:Pn)(u K A:Int):Left x l (writeNew.pointed y L u K A).1:=by
 unfold writeNew.pointed
 split
 · exact h
 · exact h.done _
theorem Fu {D:Dk}(h:D.fit=true)(k:Int)(b:List UInt8):(fill D k b).1.fit=true:=Dk.next_fit (Dk.write_fit h _ _) fun E hE=>Dk.write_fit hE _ _
theorem placeAt_fit {D:Dk}(h:D.fit=true)(k off:Int)(s:List UInt8)(i:Nat):(placeAt k off s i D).1.fit=true:=by
 unfold placeAt
 split
 · exact h
 split
 · exact h
 · exact Dk.write_fit h _ _
theorem place_fit {D:Dk}(h:D.fit=true)(k off:Int)(s:List UInt8):(place D k off s).1.fit=true:=Dk.next_fit (placeAt_fit h k off s 0) fun E hE=>placeAt_fit hE k off s 1
theorem Left.writeNew {x y:Im}{l:List Dm}(h:Left x l y)(l1 u off:Int)(s:List UInt8):Left x l (y.writeNew l1 u off s).1:=by
 unfold Im.writeNew
 split
 · exact h
 split
 · exact h
 split
 · exact h.withD (Fu h.ok.d _ _)
 · exact(h.withD (Fu h.ok.d _ _)).pointed _ _ _ _
theorem Left.writeIn {x y:Im}{l:List Dm}(h:Left x l y)(u off:Int)(s:List UInt8):Left x l (y.writeIn u off s).1:=by
 unfold Im.writeIn
 split
 · exact h
 split
 · exact h
 split
 · exact h.writeNew _ _ _ _
 split
 · exact h
 split
 · exact h.withD (place_fit h.ok.d _ _ _)
 · exact h.writeNew _ _ _ _
theorem Left.wipeIn {x y:Im}{l:List Dm}(h:Left x l y)(u:Int)(b:Bool):Left x l (y.wipeIn u b).1:=by
 unfold Im.wipeIn
 split
 · exact h
 split
 · exact h
 by_cases hc:(Pn.tabFind y.d Pn.none (Pn.rtGet y.d Pn.none).1.1 u).1=(if b then(0,0)else(2,0))
 · rw[if_pos hc];exact h
 · rw[if_neg hc];exact h.pointed _ _ _ _
def Covers (l m:List Dm):Prop:=l.map (·.name)=m.map (·.name)/\∀(i:Nat)(a b:Dm),l[i]? =some a->m[i]? =some b->∀k,a.bits.getD k false=true->b.bits.getD k false=true
theorem Covers.refl (l:List Dm):Covers l l:=⟨rfl,fun i a b h1 h2 k hk=>by rw[h1]at h2;injection h2 with h2;rw[<-h2];exact hk⟩
theorem Covers.trans {l m o:List Dm}(h:Covers l m)(h2:Covers m o):Covers l o:=⟨h.1.trans h2.1,fun i a c h3 h4 k hk=>by
 have hl:=congrArg List.length h.1;rw[List.length_map,List.length_map]at hl;have hi:=(List.getElem?_eq_some_iff.1 h3).1;have e:m[i]? =some (m[i]'(by omega)):=List.getElem?_eq_getElem (by omega);exact h2.2 i _ c e h4 k (h.2 i a _ h3 e k hk)⟩
structure Kept (x y:Im):Prop where
 ok:y.Ok
 maps:Covers x.maps y.maps
 g:y.g=x.g
 h:y.h=x.h
theorem Kept.refl {x:Im}(h:x.Ok):Kept x x:=⟨h,Covers.refl _,rfl,rfl⟩
theorem Kept.trans {x y z:Im}(h:Kept x y)(h2:Kept y z):Kept x z:=⟨h2.ok,h.maps.trans h2.maps,h2.g.trans h.g,h2.h.trans h.h⟩
end Im
end
section
open Go.RowKit Go.Shelf
theorem blk3 {w:World}{g:Nat}{t:TypeId}{a b c:Value}(h:Blk w g t #[a,b,c]):w.cell? ⟨g,0,none⟩=some a/\w.cell? ⟨g,1,none⟩=some b/\w.cell? ⟨g,2,none⟩=some c:=⟨h.cell 0,h.cell 1,h.cell 2⟩
end
end Go.Proofs.YtmiilfnchfdfcaaGreatDoor
