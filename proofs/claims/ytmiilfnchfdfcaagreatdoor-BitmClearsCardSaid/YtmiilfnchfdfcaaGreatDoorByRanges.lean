/- By: Crcs, Ranges. -/
import Derived.Test.YtmiilfnchfdfcaaGreatDoorByPlain1
import Derived.Test.YtmiilfnchfdfcaaGreatDoorProg
import Derived.Tactics
import Derived.Tactics2
import Derived.Defers
import Derived.Laws.Pointers
import Derived.Laws.LoneSync
import Derived.RegionTactic
import Derived.RegionCalls
import Derived.ChangeAlike
import Derived.Laws.NewBlocks
import Derived.Laws.BitsAllLaws
import Derived.Laws.DeepNot64
import Derived.Lib.ConvBytes
import Derived.Lib.LazyBuf
import Derived.RangeFuncBox
set_option maxRecDepth 100000
set_option maxHeartbeats 40000000
set_option linter.unusedVariables false
namespace Go.Proofs.YtmiilfnchfdfcaaGreatDoor
section
open Go.RowKit Go.Shelf
theorem GF (w:World):(callFunc 218 #[]).run Tryz.prog w=.ok (.value (.tuple #[])) w:=run_call_mark0 Tryz.func218 (by kernel_rfl) (by kernel_rfl) (by kernel_rfl) .disable (by kernel_rfl) w
theorem GG (w:World):(callFunc 220 #[]).run Tryz.prog w=.ok (.value (.tuple #[])) w:=run_call_mark0 Tryz.func220 (by kernel_rfl) (by kernel_rfl) (by kernel_rfl) .enable (by kernel_rfl) w
theorem Nz (a:Addr)(w:World):(callFunc 221 #[.pointer (some a)]).run Tryz.prog w=.ok (.value (.tuple #[])) w:=run_call_marked Tryz.func221 (by kernel_rfl) (by kernel_rfl) (by kernel_rfl) .acquire (by kernel_rfl) a w
theorem NA (a:Addr)(w:World):(callFunc 223 #[.pointer (some a)]).run Tryz.prog w=.ok (.value (.tuple #[])) w:=run_call_marked Tryz.func223 (by kernel_rfl) (by kernel_rfl) (by kernel_rfl) .releaseMerge (by kernel_rfl) a w
theorem Ov (a:Addr)(x:Value)(u:FrameMode)(w:World)(hc:w.cell? a=some x)(hz:w.frozen? a=false):
 CallsD Tryz.prog 211 #[.pointer (some a),.bool true] u w fun e u' w'=>u'=u/\(e=.returned (.tuple #[])/\w'=w.drew.setCell a (.int .u32 1)):=by
 have hc':w.drew.cell? a=some x:=by go_simp
 have hz':w.drew.frozen? a=false:=by go_simp
 have hst:=run_call_store (P:=Tryz.prog) Tryz.func215 (by kernel_rfl) (by kernel_rfl) (by kernel_rfl) (by kernel_rfl) (k:=.u32) (y:=1) hc' hz'
 go_enter_d Tryz.func211,Tryz.ntmps211
 go_wp2
 go_region_calls
 all_goals (go_end0;exact⟨rfl,rfl⟩)
theorem PF (a:Addr)(u:FrameMode)(w:World)(hc:w.cell? a=some (.int .i32 1))(hz:w.frozen? a=false):
 CallsD Tryz.prog 210 #[.pointer (some a)] u w fun e u' w'=>u'=u/\(e=.returned (.tuple #[])/\w'=w.setCell a (.int .i32 0)):=by
 have hd:=GF;have he:=GG;have hr:=NA;have hadd:=run_call_add (P:=Tryz.prog) Tryz.func224 (by kernel_rfl) (by kernel_rfl) (by kernel_rfl) .i32 (by kernel_rfl) (y:= -1) (s:=0) hc hz (by simp[go_sem];rfl);have hcv:=run_convert_to_unsafe (P:=Tryz.prog) (src:=289) (dst:=251) Tryz.underlying289 Tryz.underlying251 (by kernel_rfl) hc
 go_enter_d Tryz.func210,Tryz.ntmps210
 go_wp2
 go_end0
 go_wp2
 go_end0
 exact⟨rfl,rfl⟩
theorem Lo (a:Addr)(w:World)(hc:w.cell? a=some (.int .i32 0))(hz:w.frozen? a=false):
 Calls Tryz.prog 209 #[.pointer (some a)] w fun e w'=>e=.returned (.tuple #[])/\w'=w.setCell a (.int .i32 1):=by
 have hd:=GF;have he:=GG;have ha:=Nz;have hcas:=run_call_cas_hit (P:=Tryz.prog) Tryz.func219 (by kernel_rfl) (by kernel_rfl) (by kernel_rfl) .i32 (by kernel_rfl) (y:=1) hc hz;have hc':(w.setCell a (.int .i32 1)).cell? a=some (.int .i32 1):=World.cell?_setCell_same w a _ hc;have hcv:=run_convert_to_unsafe (P:=Tryz.prog) (src:=289) (dst:=251) Tryz.underlying289 Tryz.underlying251 (by kernel_rfl) hc';go_enter Tryz.func209,Tryz.ntmps209
 go_wp2
 first|go_end0|(simp only[Exit.inBlock,Exit.then];refine bodyPost_ret (results_none rfl _ _ _) rfl ?_)|refine bodyPost_ret (results_none rfl _ _ _) rfl ?_
 go_wp2
 go_end0
 exact⟨rfl,rfl⟩
attribute [local go_sem] Ad Ag Ah Ac Aj Ai
theorem IM (w:World)(e:TypeId)(l:List UInt8):Below w.heap.size w (Lib.bytesWorld w e (bs l))/\RowB (Lib.bytesWorld w e (bs l)) w.heap.size l:=by
 refine⟨⟨rfl,rfl,rfl,by rw[Lib.bytesWorld_size];omega,fun k hk=>Lib.bytesWorld_at_old w e _ k hk⟩,fun j hj=>⟨?_,?_⟩⟩
 · rw[Lib.bytesWorld_cell w e (bs l) j (by rw[Ac];exact hj),AY];simp[hj]
 · have hs:l.length<=(Lib.bytesCells w e (bs l)).size:=by simp[Lib.bytesCells,bs]
   simp only[World.frozen?,Lib.bytesWorld_at_new];simp;omega
theorem Fc (n:Nat):∀c,crcN (n+1) c=crc1 (crcN n c):=by
 induction n with
 |zero=>intro c;rfl
 |succ n ih=>intro c;rw[crcN,ih];rfl
def sumCells (d s:Int)(T:List Nat):Array Value:=([Value.int .u32 d,.int .i32 s,.int .u32 0]++T.map (fun(n:Nat)=>Value.int .u32 (n:Int))).toArray
theorem Ex (d s:Int)(T:List Nat):(sumCells d s T)[0]? =some (.int .u32 d):=by simp[sumCells]
theorem G6 (d s:Int)(T:List Nat):(sumCells d s T)[1]? =some (.int .i32 s):=by simp[sumCells]
theorem G7 (d s:Int)(T:List Nat)(i:Nat)(h:i<T.length):(sumCells d s T)[3+i]? =some (.int .u32 T[i]):=by
 simp only[sumCells,List.getElem?_toArray];rw[List.getElem?_append_right (by simp)];simp[h]
theorem Ow (d s:Int)(T:List Nat)(i:Nat)(n:Nat):(sumCells d s T).setIfInBounds (3+i) (.int .u32 n)=sumCells d s (T.set i n):=by
 simp only[sumCells,List.setIfInBounds_toArray];rw[List.set_append_right _ _ (by simp)];simp[List.map_set]
theorem Ox (d d' s:Int)(T:List Nat):(sumCells d s T).setIfInBounds 0 (.int .u32 d')=sumCells d' s T:=by simp[sumCells]
theorem G5 (d s s':Int)(T:List Nat):(sumCells d s T).setIfInBounds 1 (.int .i32 s')=sumCells d s' T:=by simp[sumCells]
def tabN (i:Nat):List Nat:=(List.range 256).map fun j=>if j<i then crcN 8 j else 0
theorem EA (i:Nat):(tabN i).length=256:=by simp[tabN]
theorem O0 (i:Nat)(h:i<256):(tabN i).set i (crcN 8 i)=tabN (i+1):=by
 apply List.ext_getElem (by simp[tabN])
 intro j h1 h2;simp only[tabN,List.getElem_set,List.getElem_map,List.getElem_range];by_cases e:i=j
 · subst e;simp
 · rw[if_neg e];by_cases hj:j<i
   · rw[if_pos hj,if_pos (by omega)]
   · rw[if_neg hj,if_neg (by omega)]
theorem OY (i:Nat)(h:i<256):(tabN 256)[i]'(by rw[EA];exact h)=crcN 8 i:=by simp[tabN,h]
theorem I9 {c:Nat}(h:c<4294967296):bits .xor .u32 ((c:Int)/2) (bits .and .u32 (c:Int) 1*2197175160%4294967296)=((crc1 c:Nat):Int):=by
 have e1:bits .and .u32 (c:Int) 1=(((c &&& 1:Nat)):Int):=u32_and_nat c 1 h (by omega);have e2:((c:Int)/(2:Int))=(((c >>> 1:Nat)):Int):=by rw[Nat.shiftRight_eq_div_pow];omega
 have h1:c &&& 1<=1:=by rw[Nat.and_one_is_mod];omega
 have e3:(((c &&& 1:Nat)):Int)*2197175160%4294967296=(((c &&& 1)*2197175160:Nat):Int):=by
  rw[Int.emod_eq_of_lt (by omega) (by omega)];omega
 rw[e1,e3,e2,u32_xor_nat _ _ (by rw[Nat.shiftRight_eq_div_pow];omega) (by omega)];rfl
theorem Kf (g:Nat)(t:TypeId)(d s:Int)(w:World)(hg:Blk w g t (sumCells d s (tabN 0))):
 Calls Tryz.prog 193 #[.pointer (some ⟨g,0,none⟩)] w fun e w'=>e=.returned (.tuple #[])/\Blk w' g t (sumCells d s (tabN 256))/\Below g w w':=by
 go_enter Tryz.func193,Tryz.ntmps193;go_wp2_with fail
 go_loopw [4] (fun u W=>∃i:Nat,i<=256/\u=.int .i64 i/\Blk W g t (sumCells d s (tabN i))/\Below g w W) (fun u _=>256-(intOf u).toNat)
 case atStart=>exact⟨0,by omega,rfl,hg,Below.refl _ _⟩
 case round=>
  obtain⟨i,hi,rfl,hb,hw⟩:=hrel;clear hg;by_cases hlt:i<256
  · go_wp2_with fail
    go_loopw [3,9] (fun c u W=>∃k:Nat,k<=8/\u=.int .i64 k/\c=.int .u32 (crcN k i)/\W=wr) (fun c u _=>8-(intOf u).toNat)
    case atStart=>exact⟨0,by omega,rfl,by simp[crcN],rfl⟩
    case round=>
     obtain⟨k,hk,rfl,rfl,rfl⟩:=hrel;have hcl:=CN k (c:=i) (by omega);have Hn:=hid (Fc k i);obtain⟨c,hc⟩:∃c,crcN k i=c:=⟨_,rfl⟩;rw[hc]at hcl Hn ⊢;have Hc:=hid hc;clear hc;by_cases hlk:k<8
     · have He:=hid (I9 hcl);go_wp2_with fail
       refine⟨⟨k+1,by omega,by go_num,by rw[He.out,Hn.out],trivial⟩,?_⟩;simp[intOf];omega
     · obtain rfl:k=8:=by omega
       have hset:=hb.set (3+i) (.int .u32 (c:Int));have Hs:=hid (show(sumCells d s (tabN i)).setIfInBounds (3+i) (.int .u32 (c:Int))=sumCells d s (tabN (i+1)) by rw[Ow,<-Hc.out,O0 _ hlt]);have hc3:wr.cell? ⟨g,3+i,none⟩=some (.int .u32 ((tabN i)[i]'(by rw[EA];exact hlt):Nat)):=by rw[hb.cell,G7]
       have hf3:=hb.frozen (3+i);go_wp2_with fail
       refine⟨⟨i+1,by omega,by go_num,by rw[<-Hs.out];exact hset,hw.setCell (p:=⟨g,3+i,none⟩) (Nat.le_refl _) _⟩,?_⟩;simp[intOf];omega
  · obtain rfl:i=256:=by omega
    go_wp2_with fail
    go_end0
    exact⟨rfl,hb,hw⟩
theorem EV (a:Addr)(x:Int)(w:World)(hc:w.cell? a=some (.int .u32 x)):
 Calls Tryz.prog 201 #[.pointer (some a)] w fun e w'=>e=.returned (.bool (x !=0))/\w'=w:=by
 have hl:=run_call_load (P:=Tryz.prog) Tryz.func208 (by kernel_rfl) (by kernel_rfl) (by kernel_rfl) .u32 (by kernel_rfl) hc;go_enter Tryz.func201,Tryz.ntmps201
 go_wp2
 go_ret
 exact⟨rfl,rfl⟩
theorem Ol (g:Nat)(t:TypeId)(w:World)(hg:Blk w g t (sumCells 0 0 (tabN 0))):
 Calls Tryz.prog 202 #[.pointer (some ⟨g,0,none⟩),.func (.func 193) #[.pointer (some ⟨g,0,none⟩)] #[]] w fun e w'=>e=.returned (.tuple #[])/\
  Blk w' g t (sumCells 1 0 (tabN 256))/\Below g w w':=by
 have hg1:Blk (w.setCell ⟨g,1,none⟩ (.int .i32 1)) g t (sumCells 0 1 (tabN 0)):=by
  have:=hg.set 1 (.int .i32 1)
  rwa [G5]at this
 have c1:w.cell? ⟨g,1,none⟩=some (.int .i32 0):=by rw[hg.cell,G6]
 have f1:=hg.frozen 1;have c0:(w.setCell ⟨g,1,none⟩ (.int .i32 1)).cell? ⟨g,0,none⟩=some (.int .u32 0):=by rw[hg1.cell,Ex]
 have hb1:Below g w (w.setCell ⟨g,1,none⟩ (.int .i32 1)):=(Below.refl _ _).setCell (p:=⟨g,1,none⟩) (Nat.le_refl _) _;have hld:=EV ⟨g,0,none⟩ 0 _ c0;have hfill:=Kf g t 0 1 _ hg1;clear hg1 c0
 go_enter_defers Tryz.func202,Tryz.ntmps202
 go_wp2_with (first|(go_at_call 209;refine(Lo ⟨g,1,none⟩ _ c1 f1).mono ?_;rintro e w' ⟨rfl,rfl⟩)|(go_at_call 193;refine hfill.mono ?_;rintro e w2 ⟨rfl,hb2,hw2⟩)|(go_at_call 201;refine hld.mono ?_;rintro e w' ⟨rfl,rfl⟩))
 refine leaves_cons (f:=211) (args:=#[.pointer (some ⟨g,0,none⟩),.bool true]) (by simp) (by simp[go_sem]) ?_;refine(Ov ⟨g,0,none⟩ (.int .u32 0) .returning _ (by rw[hb2.cell,Ex]) (hb2.frozen 0)).mono ?_;rintro e u' w'' ⟨rfl,rfl,rfl⟩;have hb3:Blk (w2.drew.setCell ⟨g,0,none⟩ (.int .u32 1)) g t (sumCells 1 1 (tabN 256)):=by
  have:=hb2.drew.set 0 (.int .u32 1)
  rwa [Ox]at this
 refine leaves_cons (f:=210) (args:=#[.pointer (some ⟨g,1,none⟩)]) (by simp[settle]) (by simp[go_sem]) ?_;refine(PF ⟨g,1,none⟩ _ _ (by rw[hb3.cell,G6]) (hb3.frozen 1)).mono ?_;rintro e u' w'' ⟨rfl,rfl,rfl⟩;have hb4:Blk ((w2.drew.setCell ⟨g,0,none⟩ (.int .u32 1)).setCell ⟨g,1,none⟩ (.int .i32 0)) g t (sumCells 1 0 (tabN 256)):=by
  have:=hb3.set 1 (.int .i32 0)
  rwa [G5]at this
 have hbl:Below g w ((w2.drew.setCell ⟨g,0,none⟩ (.int .u32 1)).setCell ⟨g,1,none⟩ (.int .i32 0)):=((hb1.trans hw2).drew.setCell (p:=⟨g,0,none⟩) (Nat.le_refl _) _).setCell (p:=⟨g,1,none⟩) (Nat.le_refl _) _;simp[Leaves,settle,results,Tryz.results202];exact⟨hb4,hbl⟩
theorem JZ (g:Nat)(t:TypeId)(w:World)(hg:Blk w g t (sumCells 0 0 (tabN 0))):
 Calls Tryz.prog 192 #[.pointer (some ⟨g,0,none⟩),.func (.func 193) #[.pointer (some ⟨g,0,none⟩)] #[]] w fun e w'=>e=.returned (.tuple #[])/\
  Blk w' g t (sumCells 1 0 (tabN 256))/\Below g w w':=by
 have hld:=EV ⟨g,0,none⟩ 0 w (by rw[hg.cell,Ex]);have hsl:=Ol g t w hg;clear hg;go_enter Tryz.func192,Tryz.ntmps192;go_wp2_with (first|(go_at_call 202;refine hsl.mono ?_;rintro e w2 ⟨rfl,hb2,hw2⟩)|(go_at_call 201;refine hld.mono ?_;rintro e w' ⟨rfl,rfl⟩))
 go_end0
 exact⟨rfl,hb2,hw2⟩
theorem Oz (g:Nat)(w:World)(hg:Blk w g 247 (sumCells 0 0 (tabN 0)))(c:Nat)(hc:c<4294967296)(l:List UInt8)(hl:l.length<=140737488355328):
 Calls Tryz.prog 178 #[.pointer (some ⟨g,0,none⟩),.int .u32 c,.string (bs l)] w fun e w'=>e=.returned (.int .u32 (crcL c l:Nat))/\Below g w w':=by
 have hdo:=JZ g 247 w hg;have hcv:=fun(W:World)=>Lib.run_convert_string_bytes (P:=Tryz.prog) W 9 139 5 (bs l) Tryz.underlying9 Tryz.underlying139 Tryz.underlying5
 simp only[Ac]at hcv;clear hg;go_enter Tryz.func178,Tryz.ntmps178;go_wp2_with (go_at_call 192;refine hdo.mono ?_;rintro e w2 ⟨rfl,hb2,hw2⟩)
 have hg2:g<w2.heap.size:=hb2.lt;obtain⟨q1,q2⟩:=IM w2 5 l;have hb3:=hb2.below q1 hg2;have hw3:=hw2.trans (q1.mono (by omega));generalize grownCap w2 l.length 0 5=cap at*;generalize Lib.bytesWorld w2 5 (bs l)=w3 at*;clear q1 hcv hb2 hw2 hdo;have Hct:=hid (fun(x:Nat)(h:x<256)=>show w3.cell? ⟨g,3+x,none⟩=some (.int .u32 ((crcN 8 x:Nat):Int)) by
  rw[hb3.cell,G7 _ _ _ _ (by rw[EA];exact h),OY x h])
 go_loopw [1,18] (fun cc u W=>∃i:Nat,i<=l.length/\u=.int .i64 i/\cc=.int .u32 (crcL c (l.take i):Nat)/\W=w3) (fun cc u _=>l.length-(intOf u).toNat)
 case atStart=>exact⟨0,Nat.zero_le _,rfl,rfl,rfl⟩
 case round=>
  obtain⟨i,hi,rfl,rfl,rfl⟩:=hrel;have hcl:=Bt (l.take i) hc;by_cases hlt:i<l.length
  · have Hn:=hid (show crcL c (l.take (i+1))=crcB (crcL c (l.take i)) l[i] by rw[List.take_succ_eq_append_getElem hlt,E9]);obtain⟨q3,_⟩:=q2 i hlt;generalize crcL c (l.take i)=cc at*;generalize l[i]=b at*;have hbl:b.toNat<256:=b.toNat_lt;have hX:bits .xor .u8 ((cc:Int)%256) (b.toNat:Int)=((((cc%256) ^^^ b.toNat:Nat)):Int):=by
     have:=u8_xor_nat (cc%256) b.toNat (by omega) hbl;rw[<-this];rfl
    have hm:(cc%256) ^^^ b.toNat<256:=Nat.xor_lt_two_pow (n:=8) (by omega) (by omega);have hB:=Jf cc b;obtain⟨m,hme⟩:∃m,(cc%256) ^^^ b.toNat=m:=⟨_,rfl⟩;rw[hme]at hX hm hB;have Hn2:=hid (show crcL c (l.take (i+1))=crcN 8 m ^^^ (cc >>> 8)from Hn.out.trans hB);clear hme hB;have ht:=Hct.out m hm;have hlt8:=CN 8 (c:=m) (by omega);have He:=hid (show bits .xor .u32 ((crcN 8 m:Nat):Int) ((cc:Int)/256)=((crcN 8 m ^^^ (cc >>> 8):Nat):Int) by
     have:=u32_xor_nat (crcN 8 m) (cc >>> 8) hlt8 (by rw[Nat.shiftRight_eq_div_pow];omega);rw[<-this]
     congr 1
     rw[Nat.shiftRight_eq_div_pow];omega)
    go_wp2_with fail
    refine⟨⟨i+1,by omega,by go_num,by rw[He.out,Hn2.out],trivial⟩,?_⟩;simp[intOf];omega
  · obtain rfl:i=l.length:=by omega
    rw[List.take_length];go_wp2_with fail
    go_ret
    exact⟨rfl,hw3⟩
theorem LE (s:Nat)(h:s<4294967296):4294967295 ^^^ s=4294967295-s:=by
 have e:=congrArg BitVec.toNat (BitVec.allOnes_xor (x:=BitVec.ofNat 32 s));rw[BitVec.toNat_xor,BitVec.toNat_not,BitVec.toNat_allOnes,BitVec.toNat_ofNat,Nat.mod_eq_of_lt h]at e;exact e
theorem C7 (s:Nat)(h:s<4294967296):bits .xor .u32 IntKind.u32.max (s:Int)=(((4294967295-s:Nat)):Int):=by
 rw[<-LE s h];exact u32_xor_nat 4294967295 s (by omega) h
theorem O4:tabN 0=List.replicate 256 0:=by
 have e:(fun j=>if j<0 then crcN 8 j else 0)=fun _=>0:=by funext j;rw[if_neg (Nat.not_lt_zero j)]
 rw[tabN,e,List.map_const',List.length_range]
theorem Tryz.summer_zero0:Tryz.zeroCells247=sumCells 0 0 (List.replicate 256 0):=by kernel_rfl
theorem Tryz.summer_zero:Tryz.zeroCells247=sumCells 0 0 (tabN 0):=by rw[O4,Tryz.summer_zero0]
theorem Tryz.summer_new (w:World):Blk (w.alloc (.cells Tryz.zeroCells247 247)) w.heap.size 247 (sumCells 0 0 (tabN 0)):=
 Eq.subst (motive:=fun c=>Blk (w.alloc (.cells Tryz.zeroCells247 247)) w.heap.size 247 c) Tryz.summer_zero (Blk.new w 247 Tryz.zeroCells247)
theorem Ff (s:Nat)(hs:s<4294967296)(l:List UInt8)(hl:l.length<=140737488355328)(w:World):
 Calls Tryz.prog 149 #[.int .u32 s,.string (bs l)] w fun e w'=>e=.returned (.int .u32 (crcMore s l:Nat))/\Below w.heap.size w w':=by
 have hx:=C7 s hs;have hg:=Tryz.summer_new w;have hb:=Yz (W:=w) (.cells Tryz.zeroCells247 247);have hml:4294967295-s<4294967296:=by omega
 have He:=hid (show crcMore s l=4294967295-crcL (4294967295-s) l from rfl);obtain⟨m,hme⟩:∃m,4294967295-s=m:=⟨_,rfl⟩;rw[hme]at hx hml He;have hm:=Oz w.heap.size _ hg m hml l hl;have hlt:=Bt l (c:=m) hml;have hy:=C7 (crcL m l) hlt;obtain⟨v,hv⟩:∃v,crcL m l=v:=⟨_,rfl⟩;rw[hv]at hm hy He;obtain⟨r,hr⟩:∃r,4294967295-v=r:=⟨_,rfl⟩;rw[hr]at hy He;clear hg hme hv hr hlt hml;have hsg:IntKind.u32.signed=false:=rfl;rw[He.out];go_enter Tryz.func149,Tryz.ntmps149;go_wp2_with (go_at_call 178;refine hm.mono ?_;rintro e w2 ⟨rfl,hw2⟩)
 go_ret
 exact⟨rfl,hb.trans hw2⟩
theorem Jn (l:List UInt8)(hl:l.length<=140737488355328)(w:World):
 Calls Tryz.prog 147 #[.string (bs l)] w fun e w'=>e=.returned (.int .u32 (crcOf l:Nat))/\Below w.heap.size w w':=by
 have hm:=Ff 0 (by omega) l hl w;unfold crcOf;generalize crcMore 0 l=r at*;go_enter Tryz.func147,Tryz.ntmps147;go_wp2_with (go_at_call 149;refine hm.mono ?_;rintro e w2 ⟨rfl,hw2⟩)
 go_ret
 exact⟨rfl,hw2⟩
theorem Jl {c:Nat}(h:c<4294967296):(c%2=1->bits .xor .u32 ((c:Int)/2) 2197175160=((crc1 c:Nat):Int))/\(c%2=0->(c:Int)/2=((crc1 c:Nat):Int)):=by
 have e2:((c:Int)/(2:Int))=(((c >>> 1:Nat)):Int):=by rw[Nat.shiftRight_eq_div_pow];omega
 constructor
 · intro h1;rw[e2,show(2197175160:Int)=((2197175160:Nat):Int) by rfl,u32_xor_nat _ _ (by rw[Nat.shiftRight_eq_div_pow];omega) (by omega)];rw[crc1,Nat.and_one_is_mod,h1,Nat.one_mul]
 · intro h0;rw[e2,crc1,Nat.and_one_is_mod,h0,Nat.zero_mul,Nat.xor_zero]
theorem Gw (s:Nat)(hs:s<4294967296)(l:List UInt8)(hl:l.length<=140737488355328)(w:World):
 Calls Tryz.prog 124 #[.int .u32 s,.string (bs l)] w fun e w'=>e=.returned (.int .u32 (crcMore s l:Nat))/\w=w':=by
 have hx:=C7 s hs;have hml:4294967295-s<4294967296:=by omega
 have He:=hid (show crcMore s l=4294967295-crcL (4294967295-s) l from rfl);obtain⟨m,hme⟩:∃m,4294967295-s=m:=⟨_,rfl⟩;rw[hme]at hx hml He;have hsg:IntKind.u32.signed=false:=rfl;have hy:=C7 (crcL m l) (Bt l hml);obtain⟨v,hv⟩:∃v,crcL m l=v:=⟨_,rfl⟩;rw[hv]at hy He;obtain⟨r,hr⟩:∃r,4294967295-v=r:=⟨_,rfl⟩;rw[hr]at hy He;have Hv:=hid hv;have Hy:=hid hy;rw[He.out];clear hme He hv hr hy;go_enter Tryz.func124,Tryz.ntmps124;go_wp2_with fail
 go_loop [5,6] (fun c u=>∃i:Nat,i<=l.length/\u=.int .i64 i/\c=.int .u32 (crcL m (l.take i):Nat)) (fun c u=>l.length-(intOf u).toNat)
 case atStart=>exact⟨0,Nat.zero_le _,rfl,rfl⟩
 case round=>
  obtain⟨i,hi,rfl,rfl⟩:=hrel;have hcl:=Bt (l.take i) hml;clear hx;by_cases hlt:i<l.length
  · have Hn:=hid (show crcL m (l.take (i+1))=crcB (crcL m (l.take i)) l[i] by rw[List.take_succ_eq_append_getElem hlt,E9]);generalize crcL m (l.take i)=cc at*;have hbl:l[i].toNat<256:=l[i].toNat_lt;have hX:bits .xor .u32 (cc:Int) (l[i].toNat:Int)=(((cc ^^^ l[i].toNat:Nat)):Int):=u32_xor_nat cc _ hcl (by omega);have hm2:cc ^^^ l[i].toNat<4294967296:=Nat.xor_lt_two_pow (n:=32) hcl (by omega);have Hn2:=hid (show crcL m (l.take (i+1))=crcN 8 (cc ^^^ l[i].toNat)from Hn.out);generalize cc ^^^ l[i].toNat=y at*;clear Hn;go_wp2_with fail
    go_loop [5,7] (fun c u=>∃k:Nat,k<=8/\u=.int .i64 k/\c=.int .u32 (crcN k y:Nat)) (fun c u=>8-(intOf u).toNat)
    case atStart=>exact⟨0,by omega,rfl,rfl⟩
    case round=>
     obtain⟨k,hk,rfl,rfl⟩:=hrel;clear hX;have hkl:=CN k hm2;have Hk:=hid (Fc k y);by_cases hlk:k<8
     · obtain⟨s1,s0⟩:=Jl hkl;obtain⟨z,hz⟩:∃z,crcN k y=z:=⟨_,rfl⟩;rw[hz]at hkl Hk s1 s0 ⊢;clear hz
       rcases Nat.mod_two_eq_zero_or_one z with h|h
       · have S:=hid (s0 h);have hz2:((((z:Int)%2)==1)=false):=by simp;omega
         clear s1 s0 h;go_wp2_with fail
         refine⟨⟨k+1,by omega,by go_num,by rw[S.out,Hk.out]⟩,?_⟩;simp[intOf];omega
       · have S:=hid (s1 h);have hz2:((((z:Int)%2)==1)=true):=by simp;omega
         clear s1 s0 h;go_wp2_with fail
         refine⟨⟨k+1,by omega,by go_num,by rw[S.out,Hk.out]⟩,?_⟩;simp[intOf];omega
     · obtain rfl:k=8:=by omega
       clear Hk;go_wp2_with fail
       refine⟨⟨i+1,by omega,by go_num,by rw[Hn2.out]⟩,?_⟩;simp[intOf];omega
  · obtain rfl:i=l.length:=by omega
    rw[List.take_length,Hv.out];have hy:=Hy.out;go_wp2_with fail
    go_ret
    exact⟨rfl,rfl⟩
theorem Dj (l:List UInt8)(hl:l.length<=140737488355328)(w:World):
 Calls Tryz.prog 89 #[.string (bs l)] w fun e w'=>e=.returned (.int .u32 (crcOf l:Nat))/\w=w':=by
 have hm:=Gw 0 (by omega) l hl w;unfold crcOf;generalize crcMore 0 l=r at*;go_enter Tryz.func89,Tryz.ntmps89;go_wp2_with (go_at_call 124;refine hm.mono ?_;rintro e w2 ⟨rfl,rfl⟩)
 go_ret
 exact⟨rfl,rfl⟩
theorem be4 (s:Nat):be 4 s=[UInt8.ofNat (s/16777216),UInt8.ofNat (s/65536),UInt8.ofNat (s/256),UInt8.ofNat s]:=by
 simp[be]
theorem Py (n:Nat):Value.int .u8 ((UInt8.ofNat n).toNat:Int)=.int .u8 ((n:Int)%256):=by
 congr 1
def crcCells (s:Nat)(i:Nat):Array Value:=#[.int .u8 (if 0<i then(s:Int)/16777216 else 0),.int .u8 (if 1<i then(s:Int)/65536%256 else 0),.int .u8 (if 2<i then(s:Int)/256%256 else 0),.int .u8 (if 3<i then(s:Int)%256 else 0)]
theorem E8 {s:Nat}(hs:s<4294967296):crcCells s 4=byteCells (be 4 s):=by
 simp only[crcCells,byteCells,be4,List.map_cons,List.map_nil,Py];simp;omega
theorem Jm (s:Nat)(hs:s<4294967296)(w:World):
 Calls Tryz.prog 151 #[.int .u32 s] w fun e w'=>e=.returned (.string (bs (be 4 s)))/\Below w.heap.size w w':=by
 have h0:=Blk.new w 248 (crcCells s 0);have hb0:=Yz (W:=w) (.cells (crcCells s 0) 248);simp only[crcCells,Nat.lt_irrefl,Nat.not_lt_zero,if_false]at h0 hb0;go_enter Tryz.func151,Tryz.ntmps151;go_wp2_with fail
 go_loopw [5] (fun u W=>∃i:Nat,i<=4/\u=.int .i64 i/\Blk W w.heap.size 248 (crcCells s i)/\Below w.heap.size w W) (fun u _=>4-(intOf u).toNat)
 case atStart=>exact⟨0,by omega,rfl,h0,hb0⟩
 case round=>
  obtain⟨i,hi,rfl,hk,hb⟩:=hrel;clear h0 hb0;have f0:=hk.fz;obtain rfl|rfl|rfl|rfl|rfl:i=0\/i=1\/i=2\/i=3\/i=4:=by omega
  · have c0:wr.cell? ⟨w.heap.size,0,none⟩=some (.int .u8 0):=hk.cell 0;go_wp2_with fail
    refine⟨⟨1,by omega,rfl,?_,hb.setCell (Nat.le_refl _) _⟩,by decide⟩;have hs1:=hk.set 0 (.int .u8 ((s:Int)/16777216));simpa[crcCells]using hs1
  · have c0:wr.cell? ⟨w.heap.size,1,none⟩=some (.int .u8 0):=hk.cell 1;go_wp2_with fail
    refine⟨⟨2,by omega,rfl,?_,hb.setCell (Nat.le_refl _) _⟩,by decide⟩;have hs1:=hk.set 1 (.int .u8 ((s:Int)/65536%256));simpa[crcCells]using hs1
  · have c0:wr.cell? ⟨w.heap.size,2,none⟩=some (.int .u8 0):=hk.cell 2;go_wp2_with fail
    refine⟨⟨3,by omega,rfl,?_,hb.setCell (Nat.le_refl _) _⟩,by decide⟩;have hs1:=hk.set 2 (.int .u8 ((s:Int)/256%256));simpa[crcCells]using hs1
  · have c0:wr.cell? ⟨w.heap.size,3,none⟩=some (.int .u8 0):=hk.cell 3;go_wp2_with fail
    refine⟨⟨4,by omega,rfl,?_,hb.setCell (Nat.le_refl _) _⟩,by decide⟩;have hs1:=hk.set 3 (.int .u8 ((s:Int)%256));simpa[crcCells]using hs1
  · have hcell:∀j (hj:j<(be 4 s).length),wr.cell? ((⟨w.heap.size,0,none⟩:Addr).add j)=some (.int .u8 ((be 4 s)[j].toNat:Int)):=fun j hj=>by
     rw[Bo,hk.cell,E8 hs,Nat.zero_add];simp[byteCells,hj]
    have hcv:=run_convert_bytes_back (P:=Tryz.prog) wr 139 9 5 ⟨w.heap.size,0,none⟩ 4 (be 4 s) Tryz.underlying139 Tryz.underlying5 Tryz.underlying9 hcell;rw[Aq]at hcv;clear hcell hk;go_wp2_with fail
    go_ret
    exact⟨rfl,hb⟩
theorem Di (s:Nat)(hs:s<4294967296)(w:World):
 Calls Tryz.prog 88 #[.int .u32 s] w fun e w'=>e=.returned (.string (bs (be 4 s)))/\Below w.heap.size w w':=by
 have hk:=Blk.new w 5 (crcCells s 4);have hcell:∀j (hj:j<(be 4 s).length),(w.alloc (.cells (crcCells s 4) 5)).cell? ((⟨w.heap.size,0,none⟩:Addr).add j)=some (.int .u8 ((be 4 s)[j].toNat:Int)):=fun j hj=>by
  rw[Bo,hk.cell,E8 hs,Nat.zero_add];simp[byteCells,hj]
 have hcv:=run_convert_bytes_back (P:=Tryz.prog) (w.alloc (.cells (crcCells s 4) 5)) 139 9 5 ⟨w.heap.size,0,none⟩ 4 (be 4 s) Tryz.underlying139 Tryz.underlying5 Tryz.underlying9 hcell;rw[Aq]at hcv;simp only[crcCells,Nat.reduceLT,if_true]at hcv;clear hcell hk;go_enter Tryz.func88,Tryz.ntmps88;go_wp2_with fail
 go_ret
 exact⟨rfl,Yz (W:=w) _⟩
end
section
open Go.RowKit Go.Shelf
def Stays (B:Nat)(X Y:World):Prop:=X.heap.size<=Y.heap.size/\∀k,B<=k->k<X.heap.size->Y.heap[k]? =X.heap[k]?
theorem Stays.refl (B:Nat)(X:World):Stays B X X:=⟨Nat.le_refl _,fun _ _ _=>rfl⟩
theorem Stays.trans {B:Nat}{X Y Z:World}(h:Stays B X Y)(k:Stays B Y Z):Stays B X Z:=⟨Nat.le_trans h.1 k.1,fun i hB hi=>(k.2 i hB (Nat.lt_of_lt_of_le hi h.1)).trans (h.2 i hB hi)⟩
theorem Stays.grown {B:Nat}{X Y:World}{row:Option Nat}(h:X.grownBy Y row)(hr:∀j,row=some j->j<B\/X.heap.size<=j):Stays B X Y:=
 ⟨h.size,fun k hB hk=>h.block k hk (fun e=>by have:=hr k e.symm;omega)⟩
theorem Stays.keeps {B:Nat}{X Y:World}(h:Stays B X Y):KeepsFrom B X Y:=⟨h.1,fun k o hB hk _=>(h.2 k hB (Array.getElem?_eq_some_iff.1 hk).1).trans hk⟩
theorem Stays.below {n:Nat}{X Y:World}(h:Below n X Y){B:Nat}(hs:X.heap.size<=n):Stays B X Y:=⟨h.size,fun k _ hk=>h.block k (by omega)⟩
def SeqO {α:Type}(F:Fence)(n:Nat)(P:Program)(g:Nat)(lb:Array Value)(encs:α->Array Value)(Kp:World->World->Prop)(S Sp:List α->Prop)(N:Nat)(w:World):Prop:=
 ∀(l:Nat)(J Jx:List α->World->Prop)(W:World),Below w.heap.size w W->OwnFrom W.heap.size J->OwnFrom W.heap.size Jx->
  (∀pre x W1,J pre W1->pre.length<N->YieldAt F (n-1) P l (encs x) W1 fun e W'=>
   (e=.returned (.bool true)/\J (pre++[x]) W'/\Stays W.heap.size W1 W'/\Kp W1 W')\/(e=.returned (.bool false)/\Jx (pre++[x]) W'/\KeepsFrom W.heap.size W1 W'))->
  J [] W->
  CallsIn F n P g (#[.func (.yield l) #[] #[]]++lb) W fun e W'=>(∃v,e=.returned v)/\((∃xs,S xs/\J xs W')\/(∃pre,Sp pre/\Jx pre W'))
theorem By {B B':Nat}{X Y:World}(h:KeepsFrom B X Y)(hB:B<=B'):KeepsFrom B' X Y:=⟨h.size,fun k o hk=>h.same k o (Nat.le_trans hB hk)⟩
theorem CT {X Y:World}{row:Option Nat}{B k:Nat}{o:Obj}(hg:X.grownBy Y row)(hr:∀r,row=some r->B<=r/\∃o:Obj,X.heap[r]? =some o/\o.isCells=false)(hk:k<B)(ho:X.heap[k]? =some o):Y.heap[k]? =some o:=
 (hg.block k (Array.getElem?_eq_some_iff.1 ho).1 (fun e=>by have:=(hr k e.symm).1;omega)).trans ho
theorem Er {F:Fence}{n:Nat}{P:Program}{α:Type}{g:Operand}{ps:Array Tmp}{assign body:Code}{Q:Exit->Act->World->Prop}{a:Act}{w:World}
 (hro:F.round=none) (h1:1<=n) {gf:Nat} {lb:Array Value} (hg:a.eval g=.func (.func gf) #[] lb) (hFg:F.fn gf) (eg:∀args w,(callFunc gf args).run P w=.ok (.enter gf args) w)
 {encs:α->Array Value} {Kp:World->World->Prop} {S Sp:List α->Prop} {N:Nat} {w0:World} (hseq:SeqO F (n-1) P gf lb encs Kp S Sp N w0)
 (hKt:∀{A B C:World},Kp A B->Kp B C->Kp A C) (hKb:∀(W:World)(l:Nat)(o o':Obj),w.heap.size<=l->W.heap[l]? =some o->o.isCells=false->o.isWalk=false->Kp W (W.putObj l o')) (hb0:Below w0.heap.size w0 w) (hps:∀x,(encs x).size=ps.size)
 (I:List α->World->Prop) (Ix:Code->List α->World->Prop) (hI:OwnFrom w.heap.size I) (hIx:∀c,OwnFrom w.heap.size (Ix c)) (h0:I [] w) (Ax:α->Act->World->Prop) (hAx:∀x a',OwnFrom w.heap.size (fun(_:Unit) W=>Ax x a' W))
 (hassign:∀(l:Nat)(pre:List α)(x:α)(W:World)(K:Act->World->Prop),I pre W->(∀a' W',KeepsFrom w.heap.size W W'->Stays (w.heap.size+2) W W'->Kp W W'->I pre W'->Ax x a' W'->K a' W')->
  assign.wpIn (F.inRound l) (n-1-1) P (Exit.then K (fun _ _ _=>False)) {tmps:=(ps.zip (encs x)).foldl (fun t (p,v)=>t.setIfInBounds p v) a.tmps,defers:=[]} W)
 (hbody:∀(l:Nat)(pre:List α)(x:α)(a':Act)(W:World),I pre W->Ax x a' W->pre.length<N->body.wpIn (F.inRound l) (n-1-1) P (ownPostG w.heap.size (fun A B=>Stays (w.heap.size+2) A B/\Kp A B) I Ix (pre++[x]) W) a' W)
 (hdone:∀(D:Nat)(xs:List α)(W:World),w.heap.size<=D->S xs->I xs W->W.heap[D]? =some (.deferred (some []))->Q .normal {a with defers:={target:=.collected D,args:=#[]}::a.defers} W)
 (hstop:∀(D:Nat)(c:Code)(pre:List α)(W:World),w.heap.size<=D->Sp pre->Ix c pre W->W.heap[D]? =some (.deferred (some []))->c.wpIn F n P Q {a with defers:={target:=.collected D,args:=#[]}::a.defers} W):
 (Code.rangeFunc g ps assign body).wpIn F n P Q a w:=by
 refine wpIn_rangeFunc ?_;intro fn hfn;rw[hro];obtain⟨rec,hrec⟩:∃rec:LoopState->Option Code->Loop,rec=fun st pe=>{state:=st,pending:=pe,fn,tmps:=a.tmps,params:=ps,assign,body,defers:=w.heap.size}:=⟨_,rfl⟩
 obtain⟨V,hV⟩:∃V,(w.alloc (.deferred (some []))).alloc (.loop (rec .ready none))=V:=⟨_,rfl⟩;have hVs:V.heap.size=w.heap.size+1+1:=by rw[<-hV];simp
 have hVl:V.heap[w.heap.size+1]? =some (.loop (rec .ready none)):=by
  have:=World.alloc_heap_new (w.alloc (.deferred (some []))) (.loop (rec .ready none));rwa [World.size_alloc,hV]at this
 have hVd:V.heap[w.heap.size]? =some (.deferred (some [])):=by
  rw[<-hV];exact(Below.heap_alloc _ _ _ (by simp)).trans (World.alloc_heap_new w _)
 have hVI:I [] V:=by rw[<-hV];exact hI.alloc _ (hI.alloc _ h0)
 have hVb:Below w0.heap.size w0 V:=by
  rw[<-hV];exact hb0.trans ((((Below.refl _ w).alloc (Nat.le_refl _) _).alloc (by simp) _).mono hb0.size)
 have two:∀(o:Obj),OwnFrom V.heap.size (fun(_:List α) W=>W.heap[w.heap.size+1]? =some o/\W.heap[w.heap.size]? =some (.deferred (some []))):=fun o s X Y row hs hy hr=>
  ⟨CT hy hr (by omega) hs.1,CT hy hr (by omega) hs.2⟩
 have up:∀{β:Type}{I:β->World->Prop},OwnFrom w.heap.size I->OwnFrom V.heap.size I:=fun h s X Y row hs hy hr=>h s X Y row hs hy (fun r e=>⟨by have:=(hr r e).1;omega,(hr r e).2⟩)
 refine⟨w.heap.size+1,[{target:=.collected w.heap.size,args:=#[]}],V,{target:=.fn (.func gf) lb,args:=#[.func (.yield (w.heap.size+1)) #[] #[]]},V,gf,
  #[.func (.yield (w.heap.size+1)) #[] #[]]++lb,V,?_,?_,?_,?_,fun _=>h1,?_⟩
 · rw[<-hV,hrec];exact run_enterLoop_outer _ _ _ _ _
 · simp only[resolve,hg];simp[go_sem]
 · intro f' hf';simp[Target.leads]at hf';subst hf';exact hFg
 · simp[invoke,go_sem,eg]
 refine(hseq (w.heap.size+1)
  (fun pre W=>I pre W/\W.heap[w.heap.size+1]? =some (.loop (rec .ready none))/\W.heap[w.heap.size]? =some (.deferred (some [])))
  (fun pre W=>∃c,Ix c pre W/\W.heap[w.heap.size+1]? =some (.loop (rec .done (some c)))/\W.heap[w.heap.size]? =some (.deferred (some [])))
  V hVb ((up hI).and (two _))
  (fun s X Y row hs hy hr=>by obtain⟨c,hs⟩:=hs;exact⟨c,((up (hIx c)).and (two _)) s X Y row hs hy hr⟩)
  ?_ ⟨hVI,hVl,hVd⟩).mono ?_
 · rintro pre x W ⟨hi,hl,hd⟩ hlen;have hy:=run_yield (P:=P) (args:=encs x) hl (by rw[hrec];exact hps x);rw[hrec]at hy;refine⟨fn,_,assign,body,hy,roundIn_of_wpIn hfn (hassign _ pre x W _ hi ?_)⟩;clear hy;intro a' U hkf hst hkp hiU hax;have lU:=hkf.same _ _ (by omega) hl rfl;have dU:=hkf.same _ _ (Nat.le_refl _) hd rfl;have sU:w.heap.size+1<U.heap.size:=(Array.getElem?_eq_some_iff.1 lU).1;refine⟨_,run_beginRound lU (by rw[hrec]),?_⟩;obtain⟨U2,hU2⟩:∃U2,U.putObj (w.heap.size+1) (.loop {rec .ready none with state:=.busy})=U2:=⟨_,rfl⟩;rw[hU2];have lU2:U2.heap[w.heap.size+1]? =some (.loop {rec .ready none with state:=.busy}):=by rw[<-hU2];exact World.putObj_heap_same sU
   have dU2:U2.heap[w.heap.size]? =some (.deferred (some [])):=by rw[<-hU2];exact(World.putObj_heap_other (by omega)).trans dU
   have kU2:Kp U U2:=by rw[<-hU2];exact hKb _ _ _ _ (by omega) lU rfl rfl
   have sU2:Stays V.heap.size U U2:=by rw[<-hU2];exact Stays.grown (grownBy_putObj' _ _ _) (fun j e=>by cases e;omega)
   have fU2:KeepsFrom V.heap.size U U2:=by rw[<-hU2];exact KeepsFrom.of_grownBy (grownBy_putObj' _ _ _) (fun j e=>by cases e;omega)
   have iU2:I pre U2:=by rw[<-hU2];exact hI.putObj _ hiU (by omega) lU rfl
   have aU2:Ax x a' U2:=by rw[<-hU2];exact(hAx x a').putObj (s:=()) _ hax (by omega) lU rfl
   refine wpIn_mono (hbody _ pre x a' _ iU2 aU2 hlen) ?_;have fin:∀(jump:Option Code)(T:World),KeepsFrom w.heap.size U2 T->
    (Instr.endRound (w.heap.size+1) jump).run P T=.ok (.bool jump.isNone) (T.putObj (w.heap.size+1) (.loop (rec (if jump.isNone then .ready else .done) jump)))/\
    T.heap[w.heap.size+1]? =some (.loop {rec .ready none with state:=.busy})/\
    (T.putObj (w.heap.size+1) (.loop (rec (if jump.isNone then .ready else .done) jump))).heap[w.heap.size+1]? =some (.loop (rec (if jump.isNone then .ready else .done) jump))/\
    (T.putObj (w.heap.size+1) (.loop (rec (if jump.isNone then .ready else .done) jump))).heap[w.heap.size]? =some (.deferred (some []))/\
    KeepsFrom V.heap.size W (T.putObj (w.heap.size+1) (.loop (rec (if jump.isNone then .ready else .done) jump))):=fun jump T hT=>by
    have hl3:=hT.same _ _ (by omega) lU2 rfl;have:=run_endRound (P:=P) jump hl3;refine⟨by rw[hrec]at this ⊢;exact this,hl3,World.putObj_heap_same (Array.getElem?_eq_some_iff.1 hl3).1,(World.putObj_heap_other (by omega)).trans (hT.same _ _ (Nat.le_refl _) dU2 rfl),?_⟩;exact((By hkf (by omega)).trans fU2).trans ((By hT (by omega)).trans (KeepsFrom.of_grownBy (grownBy_putObj' _ _ _) (fun j e=>by cases e;omega)))
   have stop:∀(c:Code)(T:World),KeepsFrom w.heap.size U2 T->Ix c (pre++[x]) T->∃b W',(Instr.endRound (w.heap.size+1) (some c)).run P T=.ok b W'/\
    ((b=.bool true/\(I (pre++[x]) W'/\W'.heap[w.heap.size+1]? =some (.loop (rec .ready none))/\W'.heap[w.heap.size]? =some (.deferred (some [])))/\Stays V.heap.size W W'/\Kp W W')\/
     (b=.bool false/\(∃c,Ix c (pre++[x]) W'/\W'.heap[w.heap.size+1]? =some (.loop (rec .done (some c)))/\W'.heap[w.heap.size]? =some (.deferred (some [])))/\KeepsFrom V.heap.size W W')):=fun c T hT hx=>by
    obtain⟨hr,hl3,hl4,hd4,hk4⟩:=fin (some c) T hT;exact⟨_,_,hr,.inr ⟨rfl,⟨c,(hIx _).putObj _ hx (by omega) hl3 rfl,hl4,hd4⟩,hk4⟩⟩
   rintro e a3 T hp;cases e with
   |normal=>
    obtain⟨hk3,⟨hst3,hkp3⟩,hi3⟩:=hp;obtain⟨hr,hl3,hl4,hd4,hk4⟩:=fin none T hk3;exact⟨_,_,hr,.inl ⟨rfl,⟨hI.putObj _ hi3 (by omega) hl3 rfl,hl4,hd4⟩,((hVs▸hst:Stays V.heap.size W U).trans sU2).trans ((hVs▸hst3:Stays V.heap.size U2 T).trans (Stays.grown (grownBy_putObj' _ _ _) (fun j e=>by cases e;omega))),hKt hkp (hKt (hKt kU2 hkp3) (hKb _ _ _ _ (by omega) hl3 rfl rfl))⟩⟩
   |ret=>obtain⟨b,W',hr,h⟩:=stop .ret T hp.1 hp.2;exact⟨_,_,hr,h.elim (fun h=>.inl ⟨by rw[h.1],h.2⟩) (fun h=>.inr ⟨by rw[h.1],h.2⟩)⟩
   |exit id=>obtain⟨b,W',hr,h⟩:=stop (.exit id) T hp.1 hp.2;exact⟨_,_,hr,h.elim (fun h=>.inl ⟨by rw[h.1],h.2⟩) (fun h=>.inr ⟨by rw[h.1],h.2⟩)⟩
   |goto t=>obtain⟨b,W',hr,h⟩:=stop (.goto t) T hp.1 hp.2;exact⟨_,_,hr,h.elim (fun h=>.inl ⟨by rw[h.1],h.2⟩) (fun h=>.inr ⟨by rw[h.1],h.2⟩)⟩
   |panic ch=>exact hp.elim
   |outgrown=>exact hp.elim
 · rintro e W2 ⟨⟨v,rfl⟩,(⟨xs,hS,hi,hl,hk⟩|⟨pre,hSp,c,hi,hl,hk⟩)⟩
   · exact⟨none,_,by have:=run_endLoop (P:=P) hl (by rw[hrec];simp);rw[hrec]at this;exact this,hdone _ xs _ (Nat.le_refl _) hS (hI.putObj _ hi (by omega) hl rfl) ((World.putObj_heap_other (by omega)).trans hk)⟩
   · exact⟨some c,_,by have:=run_endLoop (P:=P) hl (by rw[hrec];simp);rw[hrec]at this;exact this,hstop _ c pre _ (Nat.le_refl _) hSp ((hIx c).putObj _ hi (by omega) hl rfl) ((World.putObj_heap_other (by omega)).trans hk)⟩
theorem OwnFrom.later {β:Type}{B:Nat}{I:β->World->Prop}(h:OwnFrom B I){s:β}{W W':World}(hs:I s W)(hb:Below W.heap.size W W'):I s W':=
 h s W W' none hs ⟨hb.os,hb.tape,hb.output,hb.size,fun k hk _=>hb.block k hk⟩ (fun r e=>by cases e)
theorem AbidesFrom.later {β:Type}{B:Nat}{I:β->World->Prop}(h:AbidesFrom B I){s:β}{W W':World}(hs:I s W)(hb:Below W.heap.size W W'):I s W':=
 h s W W' none hs ⟨hb.os,hb.tape,hb.output,hb.size,fun k hk _=>hb.block k hk⟩ (fun r e=>by cases e)
structure KeepB (B:Nat) (bs:List Nat) (X Y:World):Prop where
 below:Below B X Y
 at_:∀g∈bs,Y.heap[g]? =X.heap[g]?
theorem KeepB.refl (B:Nat)(bs:List Nat)(X:World):KeepB B bs X X:=⟨Below.refl _ _,fun _ _=>rfl⟩
theorem KeepB.trans {B:Nat}{bs:List Nat}{X Y Z:World}(h:KeepB B bs X Y)(k:KeepB B bs Y Z):KeepB B bs X Z:=⟨h.below.trans k.below,fun g hg=>(k.at_ g hg).trans (h.at_ g hg)⟩
theorem KeepB.later {B:Nat}{bs:List Nat}{X Y:World}(h:Below X.heap.size X Y)(hB:B<=X.heap.size)(hbs:∀g∈bs,g<X.heap.size):KeepB B bs X Y:=⟨h.mono hB,fun g hg=>h.block g (hbs g hg)⟩
theorem KeepB.putObj {B:Nat}{bs:List Nat}{W:World}{l:Nat}(o':Obj)(hB:B<=l)(hbs:∀g∈bs,g≠l):KeepB B bs W (W.putObj l o'):=
 ⟨⟨rfl,rfl,rfl,by simp[World.putObj],fun k hk=>World.putObj_heap_other (by omega)⟩,fun g hg=>World.putObj_heap_other (hbs g hg)⟩
theorem Blk.at_ {X Y:World}{g:Nat}{t:TypeId}{cs:Array Value}(h:Blk X g t cs)(k:Y.heap[g]? =X.heap[g]?):Blk Y g t cs:=k.trans h
theorem EO {W w1:World}{n₀ B:Nat}{t e:TypeId}{size:Nat}{v v':Value}{k m:Nat}{xs ys:List Value}{tmp:Obj}
 (hv:Blk W B t #[v]) (hte:t≠e) (hrow:W.ownsRow n₀ e size v k xs) (hn₀:n₀<=W.heap.size) (hown':w1.ownsRow n₀ e size v' m ys) (hgrow:(W.alloc tmp).grownBy w1 v.ownBlock):
 Blk w1 B t #[v]/\Blk (w1.setCell ⟨B,0,none⟩ v') B t #[v']/\(w1.setCell ⟨B,0,none⟩ v').ownsRow n₀ e size v' m ys/\KeepsOthers W (w1.setCell ⟨B,0,none⟩ v')/\
  (∀B0,B0<=n₀->B0<=B->Below B0 W (w1.setCell ⟨B,0,none⟩ v'))/\∀g,g<n₀->g≠B->(w1.setCell ⟨B,0,none⟩ v').heap[g]? =W.heap[g]? :=by
 have hv1:Boxed w1 B t v:=(Boxed.alloc hv tmp).kept hgrow (Boxed.not_row hv hte hrow);have hlow:∀j,v.ownBlock=some j->n₀<=j:=fun j ej=>by
  rcases hrow.2 with ⟨rfl,_⟩|⟨g,cap,cur,rfl,hb,_,_⟩
  · simp[Value.ownBlock]at ej
  · obtain rfl:g=j:=by simpa[Value.ownBlock]using ej
    exact hb
 refine⟨hv1,Boxed.set v' hv1,hown'.kept (grownBy_setCell' w1 B v') (.inr (hv1.not_row hte hown').symm),?_,fun B0 h0 hB=>?_,fun g hg hne=>?_⟩
 · refine((KeepsOthers.alloc W tmp).trans (KeepsOthers.of_grownBy hgrow fun j o ej hj=>?_)).trans (KeepsOthers.setCell _ _ _)
   rcases(hrow.alloc tmp).2 with ⟨rfl,_⟩|⟨g,cap,cur,rfl,_,hgb,_⟩
   · simp[Value.ownBlock]at ej
   · obtain rfl:g=j:=by simpa[Value.ownBlock]using ej
     rw[hgb]at hj;cases hj;rfl
 · exact(((Below.refl B0 W).alloc (by omega) tmp).grown hgrow (by simp;omega) fun j ej=>by have:=hlow j ej;omega).setCell (p:=⟨B,0,none⟩) hB v'
 · rw[Below.heap_setCell _ _ _ _ hne,hgrow.block g (by simp;omega) (fun e=>by have:=hlow g e.symm;omega),Below.heap_alloc _ _ _ (by omega)]
theorem If {α:Type}{f:Nat->α×Int}{n:Nat}(h:∀i,i<n->(f i).2=0):allN f n=((List.range n).map (fun i=>(f i).1),0):=by
 have h2:=CF h;obtain⟨a,b⟩:=Ck h2;refine Prod.ext (List.ext_getElem? fun i=>?_) h2;by_cases hi:i<n
 · rw[(b i hi).2];simp[hi]
 · rw[List.getElem?_eq_none (by omega),List.getElem?_eq_none (by simp;omega)]
theorem Ld (B:Nat)(bs:List Nat){V:World}{B':Nat}(hB:B<=B')(hbs:∀g∈bs,g<V.heap.size)(hV:B'=V.heap.size):OwnFrom B' (fun(_:Unit) W=>KeepB B bs V W):=by
 subst hV;intro s X Y row hs hy hr;refine hs.trans ⟨⟨hy.os,hy.tape,hy.output,hy.size,fun k hk=>?_⟩,fun g hg=>?_⟩
 · rcases Nat.lt_or_ge k X.heap.size with h|h
   · exact hy.block k h (fun e=>by have:=(hr k e.symm).1;omega)
   · have:=hs.below.size;omega
 · exact hy.block g (Nat.lt_of_lt_of_le (hbs g hg) hs.below.size) (fun e=>by have:=(hr g e.symm).1;have:=hbs g hg;omega)
def StaysC (B c:Nat)(X Y:World):Prop:=X.heap.size<=Y.heap.size/\∀k,B<=k->k<B+c->k<X.heap.size->Y.heap[k]? =X.heap[k]?
theorem StaysC.refl (B c:Nat)(X:World):StaysC B c X X:=⟨Nat.le_refl _,fun _ _ _ _=>rfl⟩
theorem StaysC.trans {B c:Nat}{X Y Z:World}(h:StaysC B c X Y)(k:StaysC B c Y Z):StaysC B c X Z:=⟨Nat.le_trans h.1 k.1,fun i hB hc hi=>(k.2 i hB hc (Nat.lt_of_lt_of_le hi h.1)).trans (h.2 i hB hc hi)⟩
theorem StaysC.grown {B c:Nat}{X Y:World}{row:Option Nat}(h:X.grownBy Y row)(hr:∀j,row=some j->j<B\/B+c<=j):StaysC B c X Y:=
 ⟨h.size,fun k hB hc hk=>h.block k hk (fun e=>by have:=hr k e.symm;omega)⟩
theorem StaysC.below {n:Nat}{X Y:World}(h:Below n X Y){B c:Nat}(hs:X.heap.size<=n):StaysC B c X Y:=⟨h.size,fun k _ _ hk=>h.block k (by omega)⟩
theorem StaysC.zero {B:Nat}{X Y:World}(h:X.heap.size<=Y.heap.size):StaysC B 0 X Y:=⟨h,fun k h1 h2=>by omega⟩
def SeqC {α:Type}(c:Nat)(F:Fence)(n:Nat)(P:Program)(g:Nat)(lb:Array Value)(encs:α->Array Value)(Kp:World->World->Prop)(S Sp:List α->Prop)(N:Nat)(w:World):Prop:=
 ∀(l:Nat)(J Jx:List α->World->Prop)(W:World),Below w.heap.size w W->OwnFrom W.heap.size J->OwnFrom W.heap.size Jx->
  (∀pre x W1,J pre W1->pre.length<N->W.heap.size+c<=W1.heap.size->YieldAt F (n-1) P l (encs x) W1 fun e W'=>
   (e=.returned (.bool true)/\J (pre++[x]) W'/\KeepsFrom W.heap.size W1 W'/\StaysC W.heap.size c W1 W'/\Kp W1 W')\/(e=.returned (.bool false)/\Jx (pre++[x]) W'/\KeepsFrom W.heap.size W1 W'))->
  J [] W->
  CallsIn F n P g (#[.func (.yield l) #[] #[]]++lb) W fun e W'=>(∃v,e=.returned v)/\((∃xs,S xs/\J xs W')\/(∃pre,Sp pre/\Jx pre W'))
theorem Ep {cn:Nat}{F:Fence}{n:Nat}{P:Program}{α:Type}{g:Operand}{ps:Array Tmp}{assign body:Code}{Q:Exit->Act->World->Prop}{a:Act}{w:World}
 (hro:F.round=none) (h1:1<=n) {gf:Nat} {lb:Array Value} (hg:a.eval g=.func (.func gf) #[] lb) (hFg:F.fn gf) (eg:∀args w,(callFunc gf args).run P w=.ok (.enter gf args) w)
 {encs:α->Array Value} {Kp:World->World->Prop} {S Sp:List α->Prop} {N:Nat} {w0:World} (hseq:SeqC cn F (n-1) P gf lb encs Kp S Sp N w0)
 (hKt:∀{A B C:World},Kp A B->Kp B C->Kp A C) (hKb:∀(W:World)(l:Nat)(o o':Obj),w.heap.size<=l->W.heap[l]? =some o->o.isCells=false->o.isWalk=false->Kp W (W.putObj l o')) (hb0:Below w0.heap.size w0 w) (hps:∀x,(encs x).size=ps.size)
 (I:List α->World->Prop) (Ix:Code->List α->World->Prop) (hI:OwnFrom w.heap.size I) (hIx:∀c,OwnFrom w.heap.size (Ix c)) (h0:I [] w) (Ax:α->Act->World->Prop) (hAx:∀x a',OwnFrom w.heap.size (fun(_:Unit) W=>Ax x a' W))
 (hassign:∀(l:Nat)(pre:List α)(x:α)(W:World)(K:Act->World->Prop),I pre W->(∀a' W',KeepsFrom w.heap.size W W'->StaysC (w.heap.size+2) cn W W'->Kp W W'->I pre W'->Ax x a' W'->K a' W')->
  assign.wpIn (F.inRound l) (n-1-1) P (Exit.then K (fun _ _ _=>False)) {tmps:=(ps.zip (encs x)).foldl (fun t (p,v)=>t.setIfInBounds p v) a.tmps,defers:=[]} W)
 (hbody:∀(l:Nat)(pre:List α)(x:α)(a':Act)(W:World),I pre W->Ax x a' W->pre.length<N->w.heap.size+2+cn<=W.heap.size->body.wpIn (F.inRound l) (n-1-1) P (ownPostG w.heap.size (fun A B=>StaysC (w.heap.size+2) cn A B/\Kp A B) I Ix (pre++[x]) W) a' W)
 (hdone:∀(D:Nat)(xs:List α)(W:World),w.heap.size<=D->S xs->I xs W->W.heap[D]? =some (.deferred (some []))->Q .normal {a with defers:={target:=.collected D,args:=#[]}::a.defers} W)
 (hstop:∀(D:Nat)(c:Code)(pre:List α)(W:World),w.heap.size<=D->Sp pre->Ix c pre W->W.heap[D]? =some (.deferred (some []))->c.wpIn F n P Q {a with defers:={target:=.collected D,args:=#[]}::a.defers} W):
 (Code.rangeFunc g ps assign body).wpIn F n P Q a w:=by
 refine wpIn_rangeFunc ?_;intro fn hfn;rw[hro];obtain⟨rec,hrec⟩:∃rec:LoopState->Option Code->Loop,rec=fun st pe=>{state:=st,pending:=pe,fn,tmps:=a.tmps,params:=ps,assign,body,defers:=w.heap.size}:=⟨_,rfl⟩
 obtain⟨V,hV⟩:∃V,(w.alloc (.deferred (some []))).alloc (.loop (rec .ready none))=V:=⟨_,rfl⟩;have hVs:V.heap.size=w.heap.size+1+1:=by rw[<-hV];simp
 have hVl:V.heap[w.heap.size+1]? =some (.loop (rec .ready none)):=by
  have:=World.alloc_heap_new (w.alloc (.deferred (some []))) (.loop (rec .ready none));rwa [World.size_alloc,hV]at this
 have hVd:V.heap[w.heap.size]? =some (.deferred (some [])):=by
  rw[<-hV];exact(Below.heap_alloc _ _ _ (by simp)).trans (World.alloc_heap_new w _)
 have hVI:I [] V:=by rw[<-hV];exact hI.alloc _ (hI.alloc _ h0)
 have hVb:Below w0.heap.size w0 V:=by
  rw[<-hV];exact hb0.trans ((((Below.refl _ w).alloc (Nat.le_refl _) _).alloc (by simp) _).mono hb0.size)
 have two:∀(o:Obj),OwnFrom V.heap.size (fun(_:List α) W=>W.heap[w.heap.size+1]? =some o/\W.heap[w.heap.size]? =some (.deferred (some []))):=fun o s X Y row hs hy hr=>
  ⟨CT hy hr (by omega) hs.1,CT hy hr (by omega) hs.2⟩
 have up:∀{β:Type}{I:β->World->Prop},OwnFrom w.heap.size I->OwnFrom V.heap.size I:=fun h s X Y row hs hy hr=>h s X Y row hs hy (fun r e=>⟨by have:=(hr r e).1;omega,(hr r e).2⟩)
 refine⟨w.heap.size+1,[{target:=.collected w.heap.size,args:=#[]}],V,{target:=.fn (.func gf) lb,args:=#[.func (.yield (w.heap.size+1)) #[] #[]]},V,gf,
  #[.func (.yield (w.heap.size+1)) #[] #[]]++lb,V,?_,?_,?_,?_,fun _=>h1,?_⟩
 · rw[<-hV,hrec];exact run_enterLoop_outer _ _ _ _ _
 · simp only[resolve,hg];simp[go_sem]
 · intro f' hf';simp[Target.leads]at hf';subst hf';exact hFg
 · simp[invoke,go_sem,eg]
 refine(hseq (w.heap.size+1)
  (fun pre W=>I pre W/\W.heap[w.heap.size+1]? =some (.loop (rec .ready none))/\W.heap[w.heap.size]? =some (.deferred (some [])))
  (fun pre W=>∃c,Ix c pre W/\W.heap[w.heap.size+1]? =some (.loop (rec .done (some c)))/\W.heap[w.heap.size]? =some (.deferred (some [])))
  V hVb ((up hI).and (two _))
  (fun s X Y row hs hy hr=>by obtain⟨c,hs⟩:=hs;exact⟨c,((up (hIx c)).and (two _)) s X Y row hs hy hr⟩)
  ?_ ⟨hVI,hVl,hVd⟩).mono ?_
 · rintro pre x W ⟨hi,hl,hd⟩ hlen hsz;have hy:=run_yield (P:=P) (args:=encs x) hl (by rw[hrec];exact hps x);rw[hrec]at hy;refine⟨fn,_,assign,body,hy,roundIn_of_wpIn hfn (hassign _ pre x W _ hi ?_)⟩;clear hy;intro a' U hkf hst hkp hiU hax;have lU:=hkf.same _ _ (by omega) hl rfl;have dU:=hkf.same _ _ (Nat.le_refl _) hd rfl;have sU:w.heap.size+1<U.heap.size:=(Array.getElem?_eq_some_iff.1 lU).1;refine⟨_,run_beginRound lU (by rw[hrec]),?_⟩;obtain⟨U2,hU2⟩:∃U2,U.putObj (w.heap.size+1) (.loop {rec .ready none with state:=.busy})=U2:=⟨_,rfl⟩;rw[hU2];have lU2:U2.heap[w.heap.size+1]? =some (.loop {rec .ready none with state:=.busy}):=by rw[<-hU2];exact World.putObj_heap_same sU
   have dU2:U2.heap[w.heap.size]? =some (.deferred (some [])):=by rw[<-hU2];exact(World.putObj_heap_other (by omega)).trans dU
   have kU2:Kp U U2:=by rw[<-hU2];exact hKb _ _ _ _ (by omega) lU rfl rfl
   have sU2:StaysC V.heap.size cn U U2:=by rw[<-hU2];exact StaysC.grown (grownBy_putObj' _ _ _) (fun j e=>by cases e;omega)
   have fU2:KeepsFrom V.heap.size U U2:=by rw[<-hU2];exact KeepsFrom.of_grownBy (grownBy_putObj' _ _ _) (fun j e=>by cases e;omega)
   have iU2:I pre U2:=by rw[<-hU2];exact hI.putObj _ hiU (by omega) lU rfl
   have aU2:Ax x a' U2:=by rw[<-hU2];exact(hAx x a').putObj (s:=()) _ hax (by omega) lU rfl
   refine wpIn_mono (hbody _ pre x a' _ iU2 aU2 hlen (by have h1:=hst.1;have h2:=sU2.1;omega)) ?_;have fin:∀(jump:Option Code)(T:World),KeepsFrom w.heap.size U2 T->
    (Instr.endRound (w.heap.size+1) jump).run P T=.ok (.bool jump.isNone) (T.putObj (w.heap.size+1) (.loop (rec (if jump.isNone then .ready else .done) jump)))/\
    T.heap[w.heap.size+1]? =some (.loop {rec .ready none with state:=.busy})/\
    (T.putObj (w.heap.size+1) (.loop (rec (if jump.isNone then .ready else .done) jump))).heap[w.heap.size+1]? =some (.loop (rec (if jump.isNone then .ready else .done) jump))/\
    (T.putObj (w.heap.size+1) (.loop (rec (if jump.isNone then .ready else .done) jump))).heap[w.heap.size]? =some (.deferred (some []))/\
    KeepsFrom V.heap.size W (T.putObj (w.heap.size+1) (.loop (rec (if jump.isNone then .ready else .done) jump))):=fun jump T hT=>by
    have hl3:=hT.same _ _ (by omega) lU2 rfl;have:=run_endRound (P:=P) jump hl3;refine⟨by rw[hrec]at this ⊢;exact this,hl3,World.putObj_heap_same (Array.getElem?_eq_some_iff.1 hl3).1,(World.putObj_heap_other (by omega)).trans (hT.same _ _ (Nat.le_refl _) dU2 rfl),?_⟩;exact((By hkf (by omega)).trans fU2).trans ((By hT (by omega)).trans (KeepsFrom.of_grownBy (grownBy_putObj' _ _ _) (fun j e=>by cases e;omega)))
   have stop:∀(c:Code)(T:World),KeepsFrom w.heap.size U2 T->Ix c (pre++[x]) T->∃b W',(Instr.endRound (w.heap.size+1) (some c)).run P T=.ok b W'/\
    ((b=.bool true/\(I (pre++[x]) W'/\W'.heap[w.heap.size+1]? =some (.loop (rec .ready none))/\W'.heap[w.heap.size]? =some (.deferred (some [])))/\KeepsFrom V.heap.size W W'/\StaysC V.heap.size cn W W'/\Kp W W')\/
     (b=.bool false/\(∃c,Ix c (pre++[x]) W'/\W'.heap[w.heap.size+1]? =some (.loop (rec .done (some c)))/\W'.heap[w.heap.size]? =some (.deferred (some [])))/\KeepsFrom V.heap.size W W')):=fun c T hT hx=>by
    obtain⟨hr,hl3,hl4,hd4,hk4⟩:=fin (some c) T hT;exact⟨_,_,hr,.inr ⟨rfl,⟨c,(hIx _).putObj _ hx (by omega) hl3 rfl,hl4,hd4⟩,hk4⟩⟩
   rintro e a3 T hp;cases e with
   |normal=>
    obtain⟨hk3,⟨hst3,hkp3⟩,hi3⟩:=hp;obtain⟨hr,hl3,hl4,hd4,hk4⟩:=fin none T hk3;exact⟨_,_,hr,.inl ⟨rfl,⟨hI.putObj _ hi3 (by omega) hl3 rfl,hl4,hd4⟩,hk4,((hVs▸hst:StaysC V.heap.size cn W U).trans sU2).trans ((hVs▸hst3:StaysC V.heap.size cn U2 T).trans (StaysC.grown (grownBy_putObj' _ _ _) (fun j e=>by cases e;omega))),hKt hkp (hKt (hKt kU2 hkp3) (hKb _ _ _ _ (by omega) hl3 rfl rfl))⟩⟩
   |ret=>obtain⟨b,W',hr,h⟩:=stop .ret T hp.1 hp.2;exact⟨_,_,hr,h.elim (fun h=>.inl ⟨by rw[h.1],h.2⟩) (fun h=>.inr ⟨by rw[h.1],h.2⟩)⟩
   |exit id=>obtain⟨b,W',hr,h⟩:=stop (.exit id) T hp.1 hp.2;exact⟨_,_,hr,h.elim (fun h=>.inl ⟨by rw[h.1],h.2⟩) (fun h=>.inr ⟨by rw[h.1],h.2⟩)⟩
   |goto t=>obtain⟨b,W',hr,h⟩:=stop (.goto t) T hp.1 hp.2;exact⟨_,_,hr,h.elim (fun h=>.inl ⟨by rw[h.1],h.2⟩) (fun h=>.inr ⟨by rw[h.1],h.2⟩)⟩
   |panic ch=>exact hp.elim
   |outgrown=>exact hp.elim
 · rintro e W2 ⟨⟨v,rfl⟩,(⟨xs,hS,hi,hl,hk⟩|⟨pre,hSp,c,hi,hl,hk⟩)⟩
   · exact⟨none,_,by have:=run_endLoop (P:=P) hl (by rw[hrec];simp);rw[hrec]at this;exact this,hdone _ xs _ (Nat.le_refl _) hS (hI.putObj _ hi (by omega) hl rfl) ((World.putObj_heap_other (by omega)).trans hk)⟩
   · exact⟨some c,_,by have:=run_endLoop (P:=P) hl (by rw[hrec];simp);rw[hrec]at this;exact this,hstop _ c pre _ (Nat.le_refl _) hSp ((hIx c).putObj _ hi (by omega) hl rfl) ((World.putObj_heap_other (by omega)).trans hk)⟩
end
end Go.Proofs.YtmiilfnchfdfcaaGreatDoor
