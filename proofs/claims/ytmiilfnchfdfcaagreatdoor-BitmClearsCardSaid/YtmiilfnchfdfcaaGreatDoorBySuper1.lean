/- By: Ref01b, Plan3, Super1. -/
import Derived.Test.YtmiilfnchfdfcaaGreatDoorByPlan1
import Derived.Laws.EntriesVeiled
set_option maxRecDepth 100000
set_option maxHeartbeats 40000000
set_option linter.unusedVariables false
namespace Go.Proofs.YtmiilfnchfdfcaaGreatDoor
section
open Go.RowKit Go.Shelf
attribute [local go_sem] Ad Ag Ah Ac Aj Ai
theorem IL (w:World)(e:TypeId)(l:List UInt8):Below w.heap.size w (Lib.bytesWorld w e (bs l))/\RowB (Lib.bytesWorld w e (bs l)) w.heap.size l:=by
 refine⟨⟨rfl,rfl,rfl,by rw[Lib.bytesWorld_size];omega,fun k hk=>Lib.bytesWorld_at_old w e _ k hk⟩,fun j hj=>⟨?_,?_⟩⟩
 · rw[Lib.bytesWorld_cell w e (bs l) j (by rw[Ac];exact hj),AY];simp[hj]
 · have hs:l.length<=(Lib.bytesCells w e (bs l)).size:=by simp[Lib.bytesCells,bs]
   simp only[World.frozen?,Lib.bytesWorld_at_new];simp;omega
theorem MN (D:Dk)(p q:Pl)(w:World)(hD:IsDk w D p q)(hf:D.fit=true)(all:Bool)(ks:List Bool)(A3:Option Addr)(c3:Nat)(hk:Cells w A3 (boolCells ks))(hkl:ks.length<=9223372036854775807):
 Calls Tryz.prog 82 #[dval D p q,.bool all,.slice A3 ks.length c3] w fun e w'=>e=.returned (.string (bs (D.last fun i=>all||ks.getD i false)))/\Below w.heap.size w w':=by
 obtain⟨A1,c1⟩:=p;obtain⟨A2,c2⟩:=q;obtain⟨f1,f2,f3,f4,f5,_⟩:=Dk.fit_parts hf;have Hf:=hid hf;clear hf
 have Hf5:=hid f5;clear f5
 have F3:=hid f3;clear f3
 have hdl:=hD.data;have hb:=Yz (W:=w) (.cells #[.string (bs D.data),.slice A1 D.cache.length c1,.int .i64 D.fuse,.bool D.off,.slice A2 D.bad.length c2] 25);have hbx:=Blk.new w 25 #[.string (bs D.data),.slice A1 D.cache.length c1,.int .i64 D.fuse,.bool D.off,.slice A2 D.bad.length c2];generalize hkeep:(fun i=>all||ks.getD i false)=keep;have Hkeep:=hid hkeep;clear hkeep
 have hcv:=fun(W:World)=>Lib.run_convert_string_bytes (P:=Tryz.prog) W 9 139 5 (bs D.data) Tryz.underlying9 Tryz.underlying139 Tryz.underlying5
 simp only[Ac]at hcv;go_enter Tryz.func82,Tryz.ntmps82;go_wp2_with fail
 obtain⟨q1,q2⟩:=IL (w.alloc (.cells #[.string (bs D.data),.slice A1 D.cache.length c1,.int .i64 D.fuse,.bool D.off,.slice A2 D.bad.length c2] 25)) 5 D.data;rw[World.size_alloc]at q2;replace hb:=bt hb q1;have hbx:=hbx.below q1 (by simp);have hcap:D.data.length<=grownCap (w.alloc (.cells #[.string (bs D.data),.slice A1 D.cache.length c1,.int .i64 D.fuse,.bool D.off,.slice A2 D.bad.length c2] 25)) D.data.length 0 5:=grownCap_ge _ _ _ _;generalize grownCap (w.alloc (.cells #[.string (bs D.data),.slice A1 D.cache.length c1,.int .i64 D.fuse,.bool D.off,.slice A2 D.bad.length c2] 25)) D.data.length 0 5=cap at*;generalize Lib.bytesWorld (w.alloc (.cells #[.string (bs D.data),.slice A1 D.cache.length c1,.int .i64 D.fuse,.bool D.off,.slice A2 D.bad.length c2] 25)) 5 (bs D.data)=w1 at*;clear q1 hcv;go_loopw [8] (fun x W=>∃i:Nat,i<=D.cache.length/\x=.int .i64 i/\RowB W (w.heap.size+1) (D.lastN keep i)/\
  Blk W w.heap.size 25 #[.string (bs D.data),.slice A1 D.cache.length c1,.int .i64 D.fuse,.bool D.off,.slice A2 D.bad.length c2]/\Below w.heap.size w W) (fun x _=>D.cache.length-(intOf x).toNat)
 case atStart=>exact⟨0,Nat.zero_le _,rfl,q2,hbx,hb⟩
 case round=>
  clear hbx hb q2;obtain⟨i,hi,rfl,hrow,hbx,hb⟩:=hrel;have k0:=blk5 hbx;by_cases hlt:i<D.cache.length
  · obtain⟨pb,po,hpa,hcell⟩:=(hD.below hb).cache.put hlt;simp only at hpa;subst hpa;obtain⟨x0,x1⟩:=hcell i hlt;clear hcell;obtain⟨z1,z2,z3⟩:=Hf5.out i hlt;obtain⟨k,s,hx⟩:∃(k:Nat)(s:List UInt8),D.cache[i]=((k:Int),s):=⟨D.cache[i].1.toNat,D.cache[i].2,Prod.ext (by simp;omega) rfl⟩;have Hls:=hid (Dk.lastN_succ D keep i hlt);rw[hx]at x0 x1 z2 z3 Hls;simp only at x0 x1 z2 z3 Hls;clear z1 hx;have hdl2:D.data.length=D.sz*64:=F3.out;have hks:k*64+64<=D.data.length:=by omega
    have hw:IntKind.i64.wrap ((k:Int)*64)=(k:Int)*64:=IntWalk.i64_in _ (by omega);have hle0:(0:Int)<=(k:Int)*64:=by omega
    have hle2:(k:Int)*64<=D.data.length:=by omega
    have hle3:¬cap=k*64:=by omega
    have htn:((k:Int)*64).toNat=k*64:=by omega
    clear hdl2
    rcases Bool.eq_false_or_eq_true (keep i)with hki|hki
    · cases all with
      |true=>
       have Hki:=hid hki;clear hki
       go_wp2_with fail
       go_still_tail 15,mixed
       change wpList _ _ _ _ _ wr.drew
       have hrow2:RowB wr.drew (w.heap.size+1) (D.lastN keep i):=hrow;have hlen:=Dk.lastN_length Hf.out keep i;refine wpList_step (fun K hK=>step_copy_string rfl (.tmp 40) (.tmp 46) 139 9 rfl 5 Tryz.underlying139 Tryz.sizeOf5 (w.heap.size+1) (k*64) (D.data.length-k*64) (cap-k*64) rfl (bs s) rfl
        (by rw[Ac];omega) (fun j hj=>by rw[Ac]at hj;rw[(hrow2 (k*64+j) (by omega)).1];rfl) (fun j hj=>by rw[Ac]at hj;exact(hrow2 (k*64+j) (by omega)).2) (hK _ _ ?_))
       rw[AY];have hrow3:=hrow2.setCells s (k*64) (by omega);have hb3:=below_setCells' (B:=w.heap.size) (g:=w.heap.size+1) (by omega) (s.map fun x=>Value.int .u8 (x.toNat:Int)) (k*64) hb.drew;have hbx3:Blk (wr.drew.setCells (w.heap.size+1) (k*64) (s.map fun x=>Value.int .u8 (x.toNat:Int))) w.heap.size 25 _:=(BK (by omega) _ _ _).trans hbx;generalize wr.drew.setCells (w.heap.size+1) (k*64) (s.map fun x=>Value.int .u8 (x.toNat:Int))=w3 at*;go_wp2_with fail
       refine⟨?_,?measure⟩
       (repeat apply Exists.intro)
       refine⟨?rel,rfl⟩
       case rel=>exact⟨i+1,by omega,by go_num,by rw[Hls.out,Hki.out,if_pos rfl];exact hrow3,hbx3,hb3⟩
       case measure=>simp[intOf];omega
      |false=>
       have hki2:ks.getD i false=true:=by rw[<-Hkeep.out]at hki;simpa using hki
       have hil:i<ks.length:=by
        rcases Nat.lt_or_ge i ks.length with h|h
        · exact h
        · rw[List.getD_eq_getElem?_getD,List.getElem?_eq_none h]at hki2;simp at hki2
       obtain⟨kb,ko,hka,hkc⟩:=(hk.below hb).bool hil;subst hka;have kc:=hkc i hil;have hkv:ks[i]=true:=by rw[List.getD_eq_getElem?_getD,List.getElem?_eq_getElem hil]at hki2;simpa using hki2
       rw[hkv]at kc;clear hkc hkv hki2;have Hki:=hid hki;clear hki
       go_wp2_with fail
       go_still_tail 15,mixed
       change wpList _ _ _ _ _ wr.drew
       have hrow2:RowB wr.drew (w.heap.size+1) (D.lastN keep i):=hrow;have hlen:=Dk.lastN_length Hf.out keep i;refine wpList_step (fun K hK=>step_copy_string rfl (.tmp 40) (.tmp 46) 139 9 rfl 5 Tryz.underlying139 Tryz.sizeOf5 (w.heap.size+1) (k*64) (D.data.length-k*64) (cap-k*64) rfl (bs s) rfl
        (by rw[Ac];omega) (fun j hj=>by rw[Ac]at hj;rw[(hrow2 (k*64+j) (by omega)).1];rfl) (fun j hj=>by rw[Ac]at hj;exact(hrow2 (k*64+j) (by omega)).2) (hK _ _ ?_))
       rw[AY];have hrow3:=hrow2.setCells s (k*64) (by omega);have hb3:=below_setCells' (B:=w.heap.size) (g:=w.heap.size+1) (by omega) (s.map fun x=>Value.int .u8 (x.toNat:Int)) (k*64) hb.drew;have hbx3:Blk (wr.drew.setCells (w.heap.size+1) (k*64) (s.map fun x=>Value.int .u8 (x.toNat:Int))) w.heap.size 25 _:=(BK (by omega) _ _ _).trans hbx;generalize wr.drew.setCells (w.heap.size+1) (k*64) (s.map fun x=>Value.int .u8 (x.toNat:Int))=w3 at*;go_wp2_with fail
       refine⟨?_,?measure⟩
       (repeat apply Exists.intro)
       refine⟨?rel,rfl⟩
       case rel=>exact⟨i+1,by omega,by go_num,by rw[Hls.out,Hki.out,if_pos rfl];exact hrow3,hbx3,hb3⟩
       case measure=>simp[intOf];omega
    · cases all with
      |true=>rw[<-Hkeep.out]at hki;simp at hki
      |false=>
       have hki2:ks.getD i false=false:=by rw[<-Hkeep.out]at hki;simpa using hki
       have Hki:=hid hki;clear hki
       by_cases hil:i<ks.length
       · obtain⟨kb,ko,hka,hkc⟩:=(hk.below hb).bool hil;subst hka;have kc:=hkc i hil;have hkv:ks[i]=false:=by rw[List.getD_eq_getElem?_getD,List.getElem?_eq_getElem hil]at hki2;simpa using hki2
         rw[hkv]at kc;clear hkc hkv hki2;go_wp2_with fail
         go_roundw
         case rel=>exact⟨i+1,by omega,by go_num,by rw[Hls.out,Hki.out,if_neg (by simp)];exact hrow,hbx,hb⟩
         case measure=>simp[intOf];omega
       · clear hki2;go_wp2_with fail
         go_roundw
         case rel=>exact⟨i+1,by omega,by go_num,by rw[Hls.out,Hki.out,if_neg (by simp)];exact hrow,hbx,hb⟩
         case measure=>simp[intOf];omega
  · obtain rfl:i=D.cache.length:=by omega
    have hcv:=run_convert_bytes_back (P:=Tryz.prog) wr 139 9 5 ⟨w.heap.size+1,0,none⟩ cap (D.lastN keep D.cache.length) Tryz.underlying139 Tryz.underlying5 Tryz.underlying9 (fun j hj=>by
     have e:(Addr.add ⟨w.heap.size+1,0,none⟩ j)=⟨w.heap.size+1,j,none⟩:=by simp only[Addr.add];split<;>simp_all
     rw[e];exact(hrow j hj).1)
    rw[Dk.lastN_length Hf.out,<-F3.out,Ad]at hcv;go_wp2_with fail
    go_ret
    exact⟨rfl,hb⟩
theorem Gv (D:Dk)(p q:Pl)(hf: -9223372036854775808<=D.fuse/\D.fuse<=9223372036854775807)(w:World):
 Calls Tryz.prog 83 #[dval D p q] w fun e w'=>e=.returned (dval D.burnt p q)/\Below w.heap.size w w':=by
 obtain⟨h1,h2⟩:=hf;by_cases h:0<D.fuse
 · have Hb:=hid (show D.burnt={D with fuse:=D.fuse-1} by simp[Dk.burnt,h]);go_enter Tryz.func83,Tryz.ntmps83;go_wp2_with fail
   rw[Hb.out];refine bodyPost_ret (v:=dval {D with fuse:=D.fuse-1} p q) (by simp[results,Tryz.results83,go_sem]) rfl ⟨rfl,Ap _ _ _⟩
 · have Hb:=hid (show D.burnt=D by simp[Dk.burnt,h]);go_enter Tryz.func83,Tryz.ntmps83;go_wp2_with fail
   rw[Hb.out];refine bodyPost_ret (v:=dval D p q) (by simp[results,Tryz.results83,go_sem]) rfl ⟨rfl,Ap _ _ _⟩
theorem Tryz.infoPut:(Tryz.prog.info? 115).map (fun i=>(i.zero,i.size,i.bytes))=some (some (.agg #[.int .i64 0,.string ⟨#[]⟩]),2,24):=by kernel_rfl
theorem M8 (D:Dk)(p q:Pl)(w:World)(hD:IsDk w D p q)(k:Int)(s:List UInt8)(hs:s.length<=9223372036854775807)(h1:D.off=true):
 Calls Tryz.prog 62 #[dval D p q,.int .i64 k,.string (bs s)] w fun e w'=>RetDkN w.heap.size D p q (D.write k s) e w'/\Below w.heap.size w w':=by
 have Hw:=hid (show D.write k s=(D,12) by simp[Dk.write,h1]);obtain⟨A1,c1⟩:=p;obtain⟨A2,c2⟩:=q;go_enter Tryz.func62,Tryz.ntmps62;go_wp2_with fail
 rw[Hw.out];refine bodyPost_ret (v:=.tuple #[dval D ⟨A1,c1⟩ ⟨A2,c2⟩,.int .i64 12]) (by simp[results,Tryz.results62,go_sem,h1]) rfl ?_;exact⟨⟨_,_,rfl,hD.below (Ap _ _ _),fun _ _ h=>h⟩,Ap _ _ _⟩
theorem Na (D:Dk)(p q:Pl)(w:World)(hD:IsDk w D p q)(k:Int)(s:List UInt8)(hs:s.length<=9223372036854775807)(h1:D.off=false)(h2:D.there k=false):
 Calls Tryz.prog 62 #[dval D p q,.int .i64 k,.string (bs s)] w fun e w'=>RetDkN w.heap.size D p q (D.write k s) e w'/\Below w.heap.size w w':=by
 have Hw:=hid (show D.write k s=(D,10) by simp[Dk.write, *]);obtain⟨A1,c1⟩:=p;obtain⟨A2,c2⟩:=q;have hdl:=hD.data;have hcl:=hD.cl;have hth:=Bc D ⟨A1,c1⟩ ⟨A2,c2⟩ hD.data k;rw[h2]at hth;obtain⟨data,cache,fuse,off,bad⟩:=D;simp only at h1 hdl hcl;subst h1;clear h2;go_enter Tryz.func62,Tryz.ntmps62;go_wp2_with (go_at_call 85;refine(hth _).mono ?_;rintro e w1 ⟨rfl,hb1⟩;obtain⟨b0,b1⟩:=AO hb1;have y0:=blk5 b0;have y1:=blk5 b1;have y2:=b1.frozen;have y3:=b0.frozen)
 rw[Hw.out];have z1:=Ao b1 (.string (bs data)) (.slice A1 cache.length c1) (.int .i64 fuse) (.bool false) (.slice A2 bad.length c2);have hb:=Am (bt (Ap _ _ _) hb1) (g:=w.heap.size+1) (by omega) (.string (bs data)) (.slice A1 cache.length c1) (.int .i64 fuse) (.bool false) (.slice A2 bad.length c2);have z2:=blk5 z1;refine bodyPost_ret (v:=.tuple #[dval ⟨data,cache,fuse,false,bad⟩ ⟨A1,c1⟩ ⟨A2,c2⟩,.int .i64 10]) (by simp[results,Tryz.results62,go_sem,z2]) rfl ?_;exact⟨⟨_,_,rfl,hD.below hb,fun _ _ h=>h⟩,hb⟩
theorem Nb (D:Dk)(p q:Pl)(w:World)(hD:IsDk w D p q)(k:Int)(s:List UInt8)(hs:s.length<=9223372036854775807)(h1:D.off=false)(h2:D.there k=true)(h3:s.length≠64):
 Calls Tryz.prog 62 #[dval D p q,.int .i64 k,.string (bs s)] w fun e w'=>RetDkN w.heap.size D p q (D.write k s) e w'/\Below w.heap.size w w':=by
 have Hw:=hid (show D.write k s=(D,11) by simp[Dk.write, *]);obtain⟨A1,c1⟩:=p;obtain⟨A2,c2⟩:=q;have hdl:=hD.data;have hcl:=hD.cl;have hth:=Bc D ⟨A1,c1⟩ ⟨A2,c2⟩ hD.data k;rw[h2]at hth;obtain⟨data,cache,fuse,off,bad⟩:=D;simp only at h1 hdl hcl;subst h1;have hl:((s.length:Int) !=64)=true:=by simp;omega
 clear h2 h3;go_enter Tryz.func62,Tryz.ntmps62;go_wp2_with (go_at_call 85;refine(hth _).mono ?_;rintro e w1 ⟨rfl,hb1⟩;obtain⟨b0,b1⟩:=AO hb1;have y0:=blk5 b0;have y1:=blk5 b1;have y2:=b1.frozen;have y3:=b0.frozen)
 rw[Hw.out];have z1:=Ao b1 (.string (bs data)) (.slice A1 cache.length c1) (.int .i64 fuse) (.bool false) (.slice A2 bad.length c2);have hb:=Am (bt (Ap _ _ _) hb1) (g:=w.heap.size+1) (by omega) (.string (bs data)) (.slice A1 cache.length c1) (.int .i64 fuse) (.bool false) (.slice A2 bad.length c2);have z2:=blk5 z1;refine bodyPost_ret (v:=.tuple #[dval ⟨data,cache,fuse,false,bad⟩ ⟨A1,c1⟩ ⟨A2,c2⟩,.int .i64 11]) (by simp[results,Tryz.results62,go_sem,z2]) rfl ?_;exact⟨⟨_,_,rfl,hD.below hb,fun _ _ h=>h⟩,hb⟩
theorem M6 (D:Dk)(p q:Pl)(w:World)(hD:IsDk w D p q)(k:Int)(s:List UInt8)(hs:s.length<=9223372036854775807)(h1:D.off=false)(h2:D.there k=true)(h3:s.length=64)(h4:D.fuse=0):
 Calls Tryz.prog 62 #[dval D p q,.int .i64 k,.string (bs s)] w fun e w'=>RetDkN w.heap.size D p q (D.write k s) e w'/\Below w.heap.size w w':=by
 have Hw:=hid (show D.write k s=({D with off:=true},12) by simp[Dk.write, *]);obtain⟨A1,c1⟩:=p;obtain⟨A2,c2⟩:=q;have hdl:=hD.data;have hcl:=hD.cl;have hth:=Bc D ⟨A1,c1⟩ ⟨A2,c2⟩ hD.data k;rw[h2]at hth;obtain⟨data,cache,fuse,off,bad⟩:=D;simp only at h1 hdl hcl h4;subst h1;subst h4;have hl:((s.length:Int) !=64)=false:=by simp;omega
 clear h2 h3;go_enter Tryz.func62,Tryz.ntmps62;go_wp2_with (go_at_call 85;refine(hth _).mono ?_;rintro e w1 ⟨rfl,hb1⟩;obtain⟨b0,b1⟩:=AO hb1;have y0:=blk5 b0;have y1:=blk5 b1;have y2:=b1.frozen;have y3:=b0.frozen)
 rw[Hw.out];have z1:=Ao (b1.other (a:=⟨w.heap.size,3,none⟩) (by simp) (.bool true)) (.string (bs data)) (.slice A1 cache.length c1) (.int .i64 0) (.bool true) (.slice A2 bad.length c2);have hb:=Am ((bt (Ap _ _ _) hb1).setCell (p:=⟨w.heap.size,3,none⟩) (Nat.le_refl _) (.bool true)) (g:=w.heap.size+1) (by omega) (.string (bs data)) (.slice A1 cache.length c1) (.int .i64 0) (.bool true) (.slice A2 bad.length c2);have z2:=blk5 z1;refine bodyPost_ret (v:=.tuple #[dval ⟨data,cache,0,true,bad⟩ ⟨A1,c1⟩ ⟨A2,c2⟩,.int .i64 12]) (by simp[results,Tryz.results62,go_sem,z2]) rfl ?_;have hD':=hD.below hb;exact⟨⟨_,_,rfl,{hD' with cache:=hD'.cache},fun _ _ h=>h⟩,hb⟩
theorem M4 (D:Dk)(p q:Pl)(w:World)(hD:IsDk w D p q)(k:Int)(s:List UInt8)(hs:s.length<=9223372036854775807)(h1:D.off=false)(h2:D.there k=true)(h3:s.length=64)(h4:D.fuse≠0)(h5:k∈D.bad):
 Calls Tryz.prog 62 #[dval D p q,.int .i64 k,.string (bs s)] w fun e w'=>RetDkN w.heap.size D p q (D.write k s) e w'/\Below w.heap.size w w':=by
 have Hw:=hid (show D.write k s=(D,13) by simp[Dk.write, *]);obtain⟨A1,c1⟩:=p;obtain⟨A2,c2⟩:=q;have hdl:=hD.data;have hcl:=hD.cl;have hth:=Bc D ⟨A1,c1⟩ ⟨A2,c2⟩ hD.data k;rw[h2]at hth;have hbd:=fun(W:World)(hW:IsDk W D ⟨A1,c1⟩ ⟨A2,c2⟩)=>Cx D ⟨A1,c1⟩ ⟨A2,c2⟩ W hW k
 simp only[h5]at hbd;obtain⟨data,cache,fuse,off,bad⟩:=D;simp only at h1 hdl hcl h4;subst h1;have hl:((s.length:Int) !=64)=false:=by simp;omega
 have hfz:(fuse==0)=false:=by simpa using h4
 clear h2 h3 h4 h5;go_enter Tryz.func62,Tryz.ntmps62;go_wp2_with (first|(go_at_call 85;refine(hth _).mono ?_;rintro e w1 ⟨rfl,hb1⟩;obtain⟨b0,b1⟩:=AO hb1;have y0:=blk5 b0;have y1:=blk5 b1;have y2:=b1.frozen;have y3:=b0.frozen)|(go_at_call 101;refine(hbd _ (hD.below (bt (Ap _ _ _) hb1))).mono ?_;rintro e w2 ⟨rfl,hb2⟩;have b02:=b0.below hb2 b0.lt;have b12:=b1.below hb2 b1.lt;have y02:=blk5 b02;have y12:=blk5 b12;have y22:=b12.frozen;have y32:=b02.frozen))
 rw[Hw.out];have z1:=Ao b12 (.string (bs data)) (.slice A1 cache.length c1) (.int .i64 fuse) (.bool false) (.slice A2 bad.length c2);have hb:=Am (bt (bt (Ap _ _ _) hb1) hb2) (g:=w.heap.size+1) (by omega) (.string (bs data)) (.slice A1 cache.length c1) (.int .i64 fuse) (.bool false) (.slice A2 bad.length c2);have z2:=blk5 z1;refine bodyPost_ret (v:=.tuple #[dval ⟨data,cache,fuse,false,bad⟩ ⟨A1,c1⟩ ⟨A2,c2⟩,.int .i64 13]) (by simp[results,Tryz.results62,go_sem,z2]) rfl ?_;exact⟨⟨_,_,rfl,hD.below hb,fun _ _ h=>h⟩,hb⟩
theorem M7 (D:Dk)(p q:Pl)(w:World)(hD:IsDk w D p q)(k:Int)(s:List UInt8)(hs:s.length<=9223372036854775807)(h1:D.off=false)(h2:D.there k=true)(h3:s.length=64)(h4:D.fuse≠0)(h5:k∉D.bad)(h6:4096<=D.cache.length):
 Calls Tryz.prog 62 #[dval D p q,.int .i64 k,.string (bs s)] w fun e w'=>RetDkN w.heap.size D p q (D.write k s) e w'/\Below w.heap.size w w':=by
 have Hw:=hid (show D.write k s=(D,16) by simp[Dk.write, *]);obtain⟨A1,c1⟩:=p;obtain⟨A2,c2⟩:=q;have hdl:=hD.data;have hcl:=hD.cl;have hth:=Bc D ⟨A1,c1⟩ ⟨A2,c2⟩ hD.data k;rw[h2]at hth;have hbd:=fun(W:World)(hW:IsDk W D ⟨A1,c1⟩ ⟨A2,c2⟩)=>Cx D ⟨A1,c1⟩ ⟨A2,c2⟩ W hW k
 simp only[h5]at hbd;obtain⟨data,cache,fuse,off,bad⟩:=D;simp only at h1 hdl hcl h4 h6;subst h1;have hl:((s.length:Int) !=64)=false:=by simp;omega
 have hfz:(fuse==0)=false:=by simpa using h4
 clear h2 h3 h4 h5;go_enter Tryz.func62,Tryz.ntmps62;go_wp2_with (first|(go_at_call 85;refine(hth _).mono ?_;rintro e w1 ⟨rfl,hb1⟩;obtain⟨b0,b1⟩:=AO hb1;have y0:=blk5 b0;have y1:=blk5 b1;have y2:=b1.frozen;have y3:=b0.frozen)|(go_at_call 101;refine(hbd _ (hD.below (bt (Ap _ _ _) hb1))).mono ?_;rintro e w2 ⟨rfl,hb2⟩;have b02:=b0.below hb2 b0.lt;have b12:=b1.below hb2 b1.lt;have y02:=blk5 b02;have y12:=blk5 b12;have y22:=b12.frozen;have y32:=b02.frozen))
 rw[Hw.out];have z1:=Ao b12 (.string (bs data)) (.slice A1 cache.length c1) (.int .i64 fuse) (.bool false) (.slice A2 bad.length c2);have hb:=Am (bt (bt (Ap _ _ _) hb1) hb2) (g:=w.heap.size+1) (by omega) (.string (bs data)) (.slice A1 cache.length c1) (.int .i64 fuse) (.bool false) (.slice A2 bad.length c2);have z2:=blk5 z1;refine bodyPost_ret (v:=.tuple #[dval ⟨data,cache,fuse,false,bad⟩ ⟨A1,c1⟩ ⟨A2,c2⟩,.int .i64 16]) (by simp[results,Tryz.results62,go_sem,z2]) rfl ?_;exact⟨⟨_,_,rfl,hD.below hb,fun _ _ h=>h⟩,hb⟩
theorem M9 (D:Dk)(p q:Pl)(w:World)(hD:IsDk w D p q)(k:Int)(hk: -9223372036854775808<=k/\k<=9223372036854775807)(s:List UInt8)(hs:s.length<=9223372036854775807)(h1:D.off=false)(h2:D.there k=true)(h3:s.length=64)(h4:D.fuse≠0)(h5:k∉D.bad)(h6:D.cache.length<4096):
 Calls Tryz.prog 62 #[dval D p q,.int .i64 k,.string (bs s)] w fun e w'=>RetDkN w.heap.size D p q (D.write k s) e w'/\Below w.heap.size w w':=by
 have Hw:=hid (show D.write k s=(({D with cache:=D.cache++[(k,s)]}:Dk).burnt,0) by simp[Dk.write,h1,h2,h3,h4,h5];omega);obtain⟨A1,c1⟩:=p;obtain⟨A2,c2⟩:=q;have hdl:=hD.data;have hcl:=hD.cl;have hth:=Bc D ⟨A1,c1⟩ ⟨A2,c2⟩ hD.data k;rw[h2]at hth;have hbd:=fun(W:World)(hW:IsDk W D ⟨A1,c1⟩ ⟨A2,c2⟩)=>Cx D ⟨A1,c1⟩ ⟨A2,c2⟩ W hW k
 simp only[h5]at hbd;obtain⟨data,cache,fuse,off,bad⟩:=D;simp only at h1 hdl hcl h4 h6;subst h1;have hl:((s.length:Int) !=64)=false:=by simp;omega
 have hfz:(fuse==0)=false:=by simpa using h4
 clear h2 h3 h4 h5;go_enter Tryz.func62,Tryz.ntmps62;obtain⟨i0,hi,hz0,hz1,hz2⟩:=info_parts Tryz.infoPut;go_wp2_with (first|(go_at_call 85;refine(hth _).mono ?_;rintro e w1 ⟨rfl,hb1⟩;obtain⟨b0,b1⟩:=AO hb1;have y0:=blk5 b0;have y1:=blk5 b1;have y2:=b1.frozen;have y3:=b0.frozen)|(go_at_call 101;refine(hbd _ (hD.below (bt (Ap _ _ _) hb1))).mono ?_;rintro e w2 ⟨rfl,hb2⟩;have b02:=b0.below hb2 b0.lt;have b12:=b1.below hb2 b1.lt;have y02:=blk5 b02;have y12:=blk5 b12;have y22:=b12.frozen;have y32:=b02.frozen)|(at_builtin;refine A6 rfl (.tmp 35) (.tmp 37) 22 rfl w2.heap.size 115 i0 (.agg #[.int .i64 0,.string ⟨#[]⟩]) 2 24 Tryz.underlying22 hi hz0 hz1 hz2 rfl (by decide) _ 0 [] rfl (World.ownsRow_nil _ _ _ _) A1 cache.length c1 (putCells cache) rfl ((hD.below (bt (bt (Ap _ _ _) hb1) hb2)).cache) (Cb _) hD.pn (Gc _) (by unfold maxLen;omega) (by omega) (Nat.le_refl _) ?_;intro v1 w3 hown1 hbl1;rw[Nat.zero_add,List.nil_append]at hown1;obtain⟨V1,C1,hv1,hv2,hv3,hv4⟩:=Az hown1;rw[hv1];rw[hv1]at hown1;clear hv1)|(at_builtin;refine A6 rfl (.tmp 39) (.tmp 43) 22 rfl w2.heap.size 115 i0 (.agg #[.int .i64 0,.string ⟨#[]⟩]) 2 24 Tryz.underlying22 hi hz0 hz1 hz2 rfl (by decide) _ cache.length (putCells cache) rfl (hown1.alloc _) (some ⟨w3.heap.size,0,none⟩) 1 1 [.int .i64 k,.string (bs s)] rfl (EX _ _ _) rfl (fun h=>by cases h) (by simp[Value.oneCell']) (by unfold maxLen;omega) (by omega) (by have:=hbl1.size;simp;omega) ?_;intro v2 w4 hown2 hbl2;obtain⟨V2,C2,hw1,hw2,hw3,hw4⟩:=Az hown2;rw[hw1];rw[hw1]at hown2;clear hw1;have b04:=((b02.below hbl1 (by have:=b02.lt;omega)).alloc (.cells #[.int .i64 k,.string (bs s)] 115)).below hbl2 (by have:=b02.lt;omega);have b14:=((b12.below hbl1 (by have:=b12.lt;omega)).alloc (.cells #[.int .i64 k,.string (bs s)] 115)).below hbl2 (by have:=b12.lt;omega);have y04:=blk5 b04;have y14:=blk5 b14;have y24:=b14.frozen;have y34:=b04.frozen))
 have hbn:=Gv ⟨data,cache++[(k,s)],fuse,false,bad⟩ ⟨V2,C2⟩ ⟨A2,c2⟩ hD.fuse;obtain⟨F,hF⟩:∃F,F=if 0<fuse then fuse-1 else fuse:=⟨_,rfl⟩
 have hF2: -9223372036854775808<=F/\F<=9223372036854775807:=by have:=hD.fuse;simp only at this;rw[hF];split<;>omega
 rw[show(⟨data,cache++[(k,s)],fuse,false,bad⟩:Dk).burnt=⟨data,cache++[(k,s)],F,false,bad⟩ by rw[hF];rfl]at hbn Hw;clear hF;simp only[dval,List.length_append,List.length_singleton]at hbn;refine(hbn _).mono ?_;rintro e w5 ⟨rfl,hb5⟩;have b15:=(b14.other (a:=⟨w.heap.size,1,none⟩) (by simp) (.slice V2 (cache.length+1) C2)).below hb5 (by have:=b14.lt;simpa using this);have y15:=blk5 b15;have y25:=b15.fz;have hb4:=bt (bt (Ap _ _ _) hb1) hb2;have hb5':Below w.heap.size w w5:=by
  refine Below.trans ?_ (hb5.mono (by have:=hbl1.size;have:=hbl2.size;have:=hb4.size;simp at*;omega));refine Below.setCell (p:=⟨w.heap.size,1,none⟩) ?_ (Nat.le_refl _) _;exact((hb4.trans (hbl1.mono hb4.size)).alloc (by have:=hbl1.size;have:=hb4.size;omega) _).trans (hbl2.mono hb4.size)
 go_wp2_with fail
 rw[Hw.out];have z1:=Ao b15 (.string (bs data)) (.slice V2 (cache.length+1) C2) (.int .i64 F) (.bool false) (.slice A2 bad.length c2);have hb:=Am hb5' (g:=w.heap.size+1) (by omega) (.string (bs data)) (.slice V2 (cache.length+1) C2) (.int .i64 F) (.bool false) (.slice A2 bad.length c2);have z2:=blk5 z1;refine bodyPost_ret (v:=.tuple #[dval ⟨data,cache++[(k,s)],F,false,bad⟩ ⟨V2,C2⟩ ⟨A2,c2⟩,.int .i64 0]) (by simp[results,Tryz.results62,go_sem,z2]) rfl ?_;have hD':=hD.below hb;refine⟨⟨⟨V2,C2⟩,⟨A2,c2⟩,rfl,{hD' with cache:=?_,pn:=hw4,pc:=by simpa using hw2,pm:=hw3,cl:=by simp;omega,fuse:=hF2,strs:=?_,ats:=?_},fun g hg h=>⟨by have:=AX (g:=g) hown2 (by have:=b12.lt;omega);simpa using this,h.2⟩⟩,hb⟩
 · have hc:=Cells.of_own hown2;have e0:putCells cache++[.int .i64 k,.string (bs s)]=putCells (cache++[(k,s)]):=by simp[putCells]
   rw[e0]at hc;have q0:=AF hown2 b02.lt;have q1:=AF hown2 b12.lt;exact((hc.setCell (p:=⟨w.heap.size,1,none⟩) q0 _).below hb5).set5 q1 _ _ _ _ _
 · intro x hx
   rcases List.mem_append.1 hx with h|h
   · exact hD.strs x h
   · simp at h;subst h;exact hs
 · intro x hx
   rcases List.mem_append.1 hx with h|h
   · exact hD.ats x h
   · simp at h;subst h;exact hk
theorem Dh (D:Dk)(p q:Pl)(w:World)(hD:IsDk w D p q)(k:Int)(hk: -9223372036854775808<=k/\k<=9223372036854775807)(s:List UInt8)(hs:s.length<=9223372036854775807):
 Calls Tryz.prog 62 #[dval D p q,.int .i64 k,.string (bs s)] w fun e w'=>RetDkN w.heap.size D p q (D.write k s) e w'/\Below w.heap.size w w':=by
 cases h1:D.off with
 |true=>exact M8 D p q w hD k s hs h1
 |false=>
  cases h2:D.there k with
  |false=>exact Na D p q w hD k s hs h1 h2
  |true=>
   by_cases h3:s.length=64
   · by_cases h4:D.fuse=0
     · exact M6 D p q w hD k s hs h1 h2 h3 h4
     · by_cases h5:k∈D.bad
       · exact M4 D p q w hD k s hs h1 h2 h3 h4 h5
       · by_cases h6:4096<=D.cache.length
         · exact M7 D p q w hD k s hs h1 h2 h3 h4 h5 h6
         · exact M9 D p q w hD k hk s hs h1 h2 h3 h4 h5 (by omega)
   · exact Nb D p q w hD k s hs h1 h2 h3
theorem M3 (D:Dk)(p q:Pl)(w:World)(hD:IsDk w D p q)(k:Int)(hk:D.there k=true)(hl:D.data.length=D.sz*64):
 Calls Tryz.prog 129 #[dval D p q,.int .i64 k] w fun e w'=>e=.returned (.string (bs (D.sees k)))/\Below w.heap.size w w':=by
 obtain⟨A1,c1⟩:=p;obtain⟨A2,c2⟩:=q;have hcl:=hD.cl;have hdl:=hD.data;have hk':0<=k/\k<D.sz:=by simpa[Dk.there]using hk
 obtain⟨k,rfl⟩:=Int.eq_ofNat_of_zero_le hk'.1;have hks:k*64+64<=D.data.length:=by rw[hl];omega
 clear hk hk';have Hl:=hid hl;clear hl
 have hb:=Yz (W:=w) (.cells #[.string (bs D.data),.slice A1 D.cache.length c1,.int .i64 D.fuse,.bool D.off,.slice A2 D.bad.length c2] 25);have hbx:=Blk.new w 25 #[.string (bs D.data),.slice A1 D.cache.length c1,.int .i64 D.fuse,.bool D.off,.slice A2 D.bad.length c2];go_enter Tryz.func129,Tryz.ntmps129;go_wp2_with fail
 go_loopw [5] (fun x W=>∃n:Nat,n<=D.cache.length/\x=.int .i64 ((n:Int)-1)/\Hid (∀j (hj:j<D.cache.length),n<=j->D.cache[j].1≠k)/\
  Blk W w.heap.size 25 #[.string (bs D.data),.slice A1 D.cache.length c1,.int .i64 D.fuse,.bool D.off,.slice A2 D.bad.length c2]/\Below w.heap.size w W) (fun x _=>(intOf x+1).toNat)
 case atStart=>exact⟨D.cache.length,Nat.le_refl _,rfl,hid (fun j hj h0=>by omega),hbx,hb⟩
 case round=>
  clear hbx hb;obtain⟨n,hn,rfl,hok,hbx,hb⟩:=hrel;have k0:=blk5 hbx;by_cases hlt:0<n
  · obtain⟨pb,po,hpa,hcell⟩:=(hD.below hb).cache.put (i:=n-1) (by omega);simp only at hpa;subst hpa;obtain⟨x0,x1⟩:=hcell (n-1) (by omega);clear hcell;by_cases he:(D.cache[n-1]'(by omega)).1=k
    · have he':((D.cache[n-1]'(by omega)).1==(k:Int))=true:=by simpa using he
      have Hs:=hid (show D.sees k=(D.cache[n-1]'(by omega)).2 by
       rw[Dk.sees,Dk.seesIn_some (show n-1<D.cache.length by omega) he (fun j hj hij=>hok.out j hj (by omega))];rfl)
      clear he;go_wp2_with fail
      go_ret
      exact⟨by rw[Hs.out];rfl,hb⟩
    · have he':((D.cache[n-1]'(by omega)).1==(k:Int))=false:=by simpa using he
      have He:=hid he;clear he
      go_wp2_with fail
      go_roundw
      case rel=>exact⟨n-1,by omega,GH (by omega),hid (fun j hj hji=>by
       rcases Nat.lt_or_ge j n with h'|h'
       · obtain rfl:j=n-1:=by omega
         exact He.out
       · exact hok.out j hj h'),hbx,hb⟩
      case measure=>simp[intOf];omega
  · obtain rfl:n=0:=by omega
    have Hs:=hid (show D.sees k=D.sector k by rw[Dk.sees,Dk.seesIn_none (fun j hj=>hok.out j hj (by omega))];simp);clear hok;have m1:(0:Int)<=(k:Int)*64:=by omega
    have m3:((k:Int)+1)*64<=D.data.length:=by omega
    go_wp2_with fail
    go_ret
    exact⟨by rw[Hs.out];simp[Dk.sector],hb⟩
theorem MY (D:Dk)(p q:Pl)(w:World)(hD:IsDk w D p q)(k:Int)(h1:D.off=true):
 Calls Tryz.prog 98 #[dval D p q,.int .i64 k] w fun e w'=>e=.returned (.tuple #[.string (bs (D.read k).1),.int .i64 (D.read k).2])/\Below w.heap.size w w':=by
 have Hw:=hid (show D.read k=([],12) by simp[Dk.read, *]);obtain⟨A1,c1⟩:=p;obtain⟨A2,c2⟩:=q;go_enter Tryz.func98,Tryz.ntmps98;go_wp2_with fail
 go_ret2
 exact⟨by rw[Hw.out];rfl,Yz (W:=w) _⟩
theorem M0 (D:Dk)(p q:Pl)(w:World)(hD:IsDk w D p q)(k:Int)(h1:D.off=false)(h2:D.there k=false):
 Calls Tryz.prog 98 #[dval D p q,.int .i64 k] w fun e w'=>e=.returned (.tuple #[.string (bs (D.read k).1),.int .i64 (D.read k).2])/\Below w.heap.size w w':=by
 have Hw:=hid (show D.read k=([],10) by simp[Dk.read, *]);obtain⟨A1,c1⟩:=p;obtain⟨A2,c2⟩:=q;have hth:=Bc D ⟨A1,c1⟩ ⟨A2,c2⟩ hD.data k;rw[h2]at hth;have hb0:=Yz (W:=w) (.cells #[.string (bs D.data),.slice A1 D.cache.length c1,.int .i64 D.fuse,.bool D.off,.slice A2 D.bad.length c2] 25);clear h2;obtain⟨data,cache,fuse,off,bad⟩:=D;simp only at h1;subst h1;go_enter Tryz.func98,Tryz.ntmps98;go_wp2_with (go_at_call 85;refine(hth _).mono ?_;rintro e w1 ⟨rfl,hb1⟩;have b0:=BN _ _ hb1;have y0:=blk5 b0)
 go_ret2
 exact⟨by rw[Hw.out];rfl,bt hb0 hb1⟩
theorem MX (D:Dk)(p q:Pl)(w:World)(hD:IsDk w D p q)(k:Int)(h1:D.off=false)(h2:D.there k=true)(h5:k∈D.bad):
 Calls Tryz.prog 98 #[dval D p q,.int .i64 k] w fun e w'=>e=.returned (.tuple #[.string (bs (D.read k).1),.int .i64 (D.read k).2])/\Below w.heap.size w w':=by
 have Hw:=hid (show D.read k=([],13) by simp[Dk.read, *]);obtain⟨A1,c1⟩:=p;obtain⟨A2,c2⟩:=q;have hth:=Bc D ⟨A1,c1⟩ ⟨A2,c2⟩ hD.data k;rw[h2]at hth;have hbd:=fun(W:World)(hW:IsDk W D ⟨A1,c1⟩ ⟨A2,c2⟩)=>Cx D ⟨A1,c1⟩ ⟨A2,c2⟩ W hW k
 simp only[h5]at hbd;have hb0:=Yz (W:=w) (.cells #[.string (bs D.data),.slice A1 D.cache.length c1,.int .i64 D.fuse,.bool D.off,.slice A2 D.bad.length c2] 25);clear h2 h5;obtain⟨data,cache,fuse,off,bad⟩:=D;simp only at h1;subst h1;go_enter Tryz.func98,Tryz.ntmps98;go_wp2_with (first|(go_at_call 85;refine(hth _).mono ?_;rintro e w1 ⟨rfl,hb1⟩;have b0:=BN _ _ hb1;have y0:=blk5 b0)|(go_at_call 101;refine(hbd _ (hD.below (bt hb0 hb1))).mono ?_;rintro e w2 ⟨rfl,hb2⟩;have b02:=b0.below hb2 b0.lt;have y02:=blk5 b02))
 go_ret2
 exact⟨by rw[Hw.out];rfl,bt (bt hb0 hb1) hb2⟩
theorem MZ (D:Dk)(p q:Pl)(w:World)(hD:IsDk w D p q)(k:Int)(h1:D.off=false)(h2:D.there k=true)(h5:k∉D.bad)(hl:D.data.length=D.sz*64):
 Calls Tryz.prog 98 #[dval D p q,.int .i64 k] w fun e w'=>e=.returned (.tuple #[.string (bs (D.read k).1),.int .i64 (D.read k).2])/\Below w.heap.size w w':=by
 have Hw:=hid (show D.read k=(D.sees k,0) by simp[Dk.read, *]);obtain⟨A1,c1⟩:=p;obtain⟨A2,c2⟩:=q;have hth:=Bc D ⟨A1,c1⟩ ⟨A2,c2⟩ hD.data k;rw[h2]at hth;have hbd:=fun(W:World)(hW:IsDk W D ⟨A1,c1⟩ ⟨A2,c2⟩)=>Cx D ⟨A1,c1⟩ ⟨A2,c2⟩ W hW k
 simp only[h5]at hbd;have hb0:=Yz (W:=w) (.cells #[.string (bs D.data),.slice A1 D.cache.length c1,.int .i64 D.fuse,.bool D.off,.slice A2 D.bad.length c2] 25);have H2:=hid h2;clear h2 h5
 have Hl:=hid hl;clear hl
 obtain⟨data,cache,fuse,off,bad⟩:=D;simp only at h1;subst h1;go_enter Tryz.func98,Tryz.ntmps98;go_wp2_with (first|(go_at_call 85;refine(hth _).mono ?_;rintro e w1 ⟨rfl,hb1⟩;have b0:=BN _ _ hb1;have y0:=blk5 b0)|(go_at_call 101;refine(hbd _ (hD.below (bt hb0 hb1))).mono ?_;rintro e w2 ⟨rfl,hb2⟩;have b02:=b0.below hb2 b0.lt;have y02:=blk5 b02)|(go_at_call 129;refine(M3 ⟨data,cache,fuse,false,bad⟩ ⟨A1,c1⟩ ⟨A2,c2⟩ _ (hD.below (bt (bt hb0 hb1) hb2)) k H2.out Hl.out).mono ?_;rintro e w3 ⟨rfl,hb3⟩))
 go_ret2
 exact⟨by rw[Hw.out];rfl,bt (bt (bt hb0 hb1) hb2) hb3⟩
theorem Dg (D:Dk)(p q:Pl)(w:World)(hD:IsDk w D p q)(k:Int)(hl:D.data.length=D.sz*64):
 Calls Tryz.prog 98 #[dval D p q,.int .i64 k] w fun e w'=>e=.returned (.tuple #[.string (bs (D.read k).1),.int .i64 (D.read k).2])/\Below w.heap.size w w':=by
 cases h1:D.off with
 |true=>exact MY D p q w hD k h1
 |false=>
  cases h2:D.there k with
  |false=>exact M0 D p q w hD k h1 h2
  |true=>
   by_cases h5:k∈D.bad
   · exact MX D p q w hD k h1 h2 h5
   · exact MZ D p q w hD k h1 h2 h5 hl
theorem MS (D:Dk)(p q:Pl)(w:World)(hD:IsDk w D p q)(h1:D.off=true):
 Calls Tryz.prog 41 #[dval D p q] w fun e w'=>RetDkN w.heap.size D p q D.flush e w'/\Below w.heap.size w w':=by
 have Hw:=hid (show D.flush=(D,12) by simp[Dk.flush,h1]);go_enter Tryz.func41,Tryz.ntmps41;go_wp2_with fail
 rw[Hw.out];refine bodyPost_ret (v:=.tuple #[dval D p q,.int .i64 12]) (by simp[results,Tryz.results41,go_sem,h1]) rfl ?_;exact⟨⟨_,_,rfl,hD.below (Ap _ _ _),fun _ _ h=>h⟩,Ap _ _ _⟩
theorem MR (D:Dk)(p q:Pl)(w:World)(hD:IsDk w D p q)(h1:D.off=false)(h2:D.fuse=0):
 Calls Tryz.prog 41 #[dval D p q] w fun e w'=>RetDkN w.heap.size D p q D.flush e w'/\Below w.heap.size w w':=by
 have Hw:=hid (show D.flush=({D with off:=true},12) by simp[Dk.flush,h1,h2]);go_enter Tryz.func41,Tryz.ntmps41;go_wp2_with fail
 rw[Hw.out];refine bodyPost_ret (v:=.tuple #[dval {D with off:=true} p q,.int .i64 12]) (by simp[results,Tryz.results41,go_sem,h2]) rfl ?_;exact⟨⟨_,_,rfl,(hD.setOff true).below (Ap _ _ _),fun _ _ h=>h⟩,Ap _ _ _⟩
theorem MT (D:Dk)(p q:Pl)(w:World)(hD:IsDk w D p q)(hf:D.fit=true)(h1:D.off=false)(h2:D.fuse≠0):
 Calls Tryz.prog 41 #[dval D p q] w fun e w'=>RetDkN w.heap.size D p q D.flush e w'/\Below w.heap.size w w':=by
 have Hw:=hid (show D.flush=(({D with data:=D.last fun _=>true,cache:=[]}:Dk).burnt,0) by simp[Dk.flush,h1,h2]);have hll:=Dk.lastN_length hf (fun _=>true) D.cache.length;obtain⟨f1,f2,f3,_⟩:=Dk.fit_parts hf;obtain⟨A1,c1⟩:=p;obtain⟨A2,c2⟩:=q;have hdone:=fun(W:World)(hW:IsDk W D ⟨A1,c1⟩ ⟨A2,c2⟩)=>MN D ⟨A1,c1⟩ ⟨A2,c2⟩ W hW hf true [] none 0 (.inl rfl) (by simp)
 simp only[Bool.true_or,List.length_nil]at hdone
 change (D.last fun _=>true).length=_ at hll
 generalize (D.last fun _=>true)=L at*;have hL:L.length<=140737488355328:=by have:=hD.data;omega
 clear f1 f2 f3 hll hf;have hfz:(D.fuse==0)=false:=by simpa using h2
 clear h2;obtain⟨data,cache,fuse,off,bad⟩:=D;simp only at h1 hfz;subst h1;obtain⟨F,hF⟩:∃F,F=if 0<fuse then fuse-1 else fuse:=⟨_,rfl⟩
 have hF2: -9223372036854775808<=F/\F<=9223372036854775807:=by have:=hD.fuse;simp only at this;rw[hF];split<;>omega
 have hbn:=Gv ⟨L,[],fuse,false,bad⟩ ⟨none,0⟩ ⟨A2,c2⟩ hD.fuse;rw[show(⟨L,[],fuse,false,bad⟩:Dk).burnt=⟨L,[],F,false,bad⟩ by rw[hF];rfl]at hbn Hw;clear hF;simp only[dval,List.length_nil]at hbn;go_enter Tryz.func41,Tryz.ntmps41;go_wp2_with (first|(go_at_call 82;refine(hdone _ (hD.below (Ap _ _ _))).mono ?_;rintro e w1 ⟨rfl,hb1⟩;obtain⟨b0,b1⟩:=AO hb1;have y0:=blk5 b0;have y1:=blk5 b1;have y2:=b1.frozen;have y3:=b0.frozen)|(go_at_call 83;refine(hbn _).mono ?_;rintro e w2 ⟨rfl,hb2⟩;have b12:=((b1.other (a:=⟨w.heap.size,0,none⟩) (by simp) (.string (bs L))).other (a:=⟨w.heap.size,1,none⟩) (by simp) (.slice none 0 0)).below hb2 (by have:=b1.lt;simpa using this);have y12:=blk5 b12;have y22:=b12.frozen))
 rw[Hw.out];have z1:=Ao b12 (.string (bs L)) (.slice none 0 0) (.int .i64 F) (.bool false) (.slice A2 bad.length c2);have hb:=Am (bt (((bt (Ap _ _ _) hb1).setCell (p:=⟨w.heap.size,0,none⟩) (Nat.le_refl _) (.string (bs L))).setCell (p:=⟨w.heap.size,1,none⟩) (Nat.le_refl _) (.slice none 0 0)) hb2) (g:=w.heap.size+1) (by omega) (.string (bs L)) (.slice none 0 0) (.int .i64 F) (.bool false) (.slice A2 bad.length c2);have z2:=blk5 z1;refine bodyPost_ret (v:=.tuple #[dval ⟨L,[],F,false,bad⟩ ⟨none,0⟩ ⟨A2,c2⟩,.int .i64 0]) (by simp[results,Tryz.results41,go_sem,z2]) rfl ?_;exact⟨⟨_,_,rfl,((hD.flushed hL).setFuse hF2).below hb,fun _ _ h=>⟨.inl rfl,h.2⟩⟩,hb⟩
theorem Ek (D:Dk)(p q:Pl)(w:World)(hD:IsDk w D p q)(hf:D.fit=true):
 Calls Tryz.prog 41 #[dval D p q] w fun e w'=>RetDkN w.heap.size D p q D.flush e w'/\Below w.heap.size w w':=by
 cases h1:D.off with
 |true=>exact MS D p q w hD h1
 |false=>
  by_cases h2:D.fuse=0
  · exact MR D p q w hD h1 h2
  · exact MT D p q w hD hf h1 h2
theorem MV (n:Int)(h:n<1\/1024<n)(w:World):
 Calls Tryz.prog 48 #[.int .i64 n] w fun e w'=>RetDk (Dk.fresh n) e w'/\Below w.heap.size w w':=by
 have Hw:=hid (show Dk.fresh n=(⟨[],[],0,false,[]⟩,11) by simp[Dk.fresh,h]);by_cases h0:n<1
 · clear h;go_enter Tryz.func48,Tryz.ntmps48;go_wp2_with fail
   rw[Hw.out];refine bodyPost_ret (v:=.tuple #[dval ⟨[],[],0,false,[]⟩ ⟨none,0⟩ ⟨none,0⟩,.int .i64 11]) (by simp[results,Tryz.results48,go_sem]) rfl ?_;exact⟨⟨_,_,rfl,FM _⟩,Yz _⟩
 · have h1:1024<n:=by omega
   clear h;go_enter Tryz.func48,Tryz.ntmps48;go_wp2_with fail
   rw[Hw.out];refine bodyPost_ret (v:=.tuple #[dval ⟨[],[],0,false,[]⟩ ⟨none,0⟩ ⟨none,0⟩,.int .i64 11]) (by simp[results,Tryz.results48,go_sem]) rfl ?_;exact⟨⟨_,_,rfl,FM _⟩,Yz _⟩
theorem Tryz.infoByte':(Tryz.prog.info? 5).map (fun i=>(i.zero,i.size,i.bytes))=some (some (.int .u8 0),1,1):=by kernel_rfl
theorem MW (n:Nat)(h0:1<=n)(h1:n<=1024)(w:World):
 Calls Tryz.prog 48 #[.int .i64 n] w fun e w'=>RetDk (Dk.fresh n) e w'/\Below w.heap.size w w':=by
 have Hw:=hid (show Dk.fresh n=(⟨List.replicate (n*64) 0,[],-1,false,[]⟩,0) by rw[Dk.fresh,if_neg (by omega),Nat.mul_comm];simp);obtain⟨i0,hi,hz0,hz1,hz2⟩:=info_parts Tryz.infoByte';have hmk:=fun W=>Cf (P:=Tryz.prog) 139 5 i0 (.int .u8 0) Tryz.underlying139 hi hz0 .i64 .i64 (n*64) (n*64) (Nat.le_refl _) (by rw[hz2];omega) (by omega) W
 rw[hz1,Nat.mul_one,show((n*64:Nat):Int)=(n:Int)*64 by omega]at hmk;have hcv:=fun(W:World)=>run_convert_bytes_back (P:=Tryz.prog) (W.alloc (.cells (madeCells #[.int .u8 0] (n*64)) 5)) 139 9 5 ⟨W.heap.size,0,none⟩ (n*64) (List.replicate (n*64) 0) Tryz.underlying139 Tryz.underlying5 Tryz.underlying9 (fun j hj=>by
  have hj':j<n*64:=by simpa using hj
  rw[Bo,(Blk.new W _ _).cell,<-Array.getElem?_toList,toList_madeCells_one];simp[hj'])
 simp only[List.length_replicate]at hcv;have hcv2:=hcv (w.alloc (.cells #[.string (bs []),.slice none 0 0,.int .i64 0,.bool false,.slice none 0 0] 25));rw[Ad,World.size_alloc]at hcv2;clear hcv;go_enter Tryz.func48,Tryz.ntmps48;go_wp2_with fail
 rw[Hw.out];refine bodyPost_ret (v:=.tuple #[dval ⟨List.replicate (n*64) 0,[],-1,false,[]⟩ ⟨none,0⟩ ⟨none,0⟩,.int .i64 0]) (by simp[results,Tryz.results48,go_sem]) rfl ?_;exact⟨⟨_,_,rfl,KM _ _ (by simp;omega)⟩,Ap _ _ _⟩
theorem MU (n:Int)(w:World):
 Calls Tryz.prog 48 #[.int .i64 n] w fun e w'=>RetDk (Dk.fresh n) e w'/\Below w.heap.size w w':=by
 by_cases h:n<1\/1024<n
 · exact MV n h w
 · obtain⟨k,rfl⟩:=Int.eq_ofNat_of_zero_le (show 0<=n by omega);exact MW k (by omega) (by omega) w
theorem L4 (D:Dk)(L:Pn)(p q p' q':Pl)(w:World)(hD:IsDk w D p q)(hL:IsPn w L p' q')(k:Int)(hl:D.data.length=D.sz*64)(ht:L.targets.length<=1000000)(he:L.targets.length=L.data.length):
 Calls Tryz.prog 138 #[dval D p q,pval L p' q',.int .i64 k] w fun e w'=>e=.returned (.tuple #[.string (bs (Pn.look D L k).1),.int .i64 (Pn.look D L k).2])/\Below w.heap.size w w':=by
 have hi:=fun(W:World)(hb:Below w.heap.size w W)=>DY p'.a L.targets p'.c k W (hL.targets.below hb) (by omega) L.data
 have hr:=fun(W:World)(hb:Below w.heap.size w W)=>JB D p q W (hD.below hb) k hl
 have hc:=fun(W:World)(hb:Below w.heap.size w W)=>hL.data.below hb
 clear hL hD;obtain⟨A1,c1⟩:=p;obtain⟨A2,c2⟩:=q;obtain⟨B1,d1⟩:=p';obtain⟨B2,d2⟩:=q';simp only at hi hc;have hb:=Ap w (.cells #[.string (bs D.data),.slice A1 D.cache.length c1,.int .i64 D.fuse,.bool D.off,.slice A2 D.bad.length c2] 25) (.cells #[.slice B1 L.targets.length d1,.slice B2 L.data.length d2] 63);by_cases hm:k∈L.targets
 · obtain⟨i,hi0,h1,h2,h3⟩:=Pn.find_in hm;have hid0:i<L.data.length:=by omega
   have Hw:=hid (show Pn.look D L k=(L.data[i],0) by rw[Pn.look,if_pos hm,h3,List.getD_eq_getElem?_getD,List.getElem?_eq_getElem hid0];rfl);obtain⟨pb,po,hpa,hcell⟩:=(hc _ hb).str hid0;subst hpa;have y0:=hcell i hid0;clear hcell;have hi':=hi _ hb;rw[show(⟨L.targets,L.data⟩:Pn).find k=i from h1]at hi';clear hi hr hc h1 h2 h3 hm he;go_enter Tryz.func138,Tryz.ntmps138;go_wp2_with fail
   go_at_call 117;refine hi'.mono ?_;rintro e w1 ⟨rfl,rfl⟩;go_wp2_with fail
   go_ret2
   exact⟨by rw[Hw.out];rfl,hb⟩
 · have Hw:=hid (show Pn.look D L k=D.read k by rw[Pn.look,if_neg hm]);have hi':=hi _ hb;rw[show(⟨L.targets,L.data⟩:Pn).find k= -1 from Pn.find_out hm]at hi';clear hi hc hm he;go_enter Tryz.func138,Tryz.ntmps138;go_wp2_with fail
   go_at_call 117;refine hi'.mono ?_;rintro e w1 ⟨rfl,rfl⟩;go_wp2_with fail
   go_at_call 165;refine(hr _ hb).mono ?_;rintro e w2 ⟨rfl,hb2⟩;go_wp2_with fail
   go_ret2
   exact⟨by rw[Hw.out];rfl,bt hb hb2⟩
theorem Cy (D:Dk)(L:Pn)(p q p' q':Pl)(w:World)(hD:IsDk w D p q)(hL:IsPn w L p' q')(k:Int)(hl:D.data.length=D.sz*64)(ht:L.targets.length<=1000000)(he:L.targets.length=L.data.length):
 Calls Tryz.prog 71 #[dval D p q,pval L p' q',.int .i64 k] w fun e w'=>e=.returned (.tuple #[.string (bs (Pn.look D L k).1),.int .i64 (Pn.look D L k).2])/\Below w.heap.size w w':=by
 have hi:=fun(W:World)(hb:Below w.heap.size w W)=>En L p' q' k W (hL.below hb) (by omega)
 have hr:=fun(W:World)(hb:Below w.heap.size w W)=>Dg D p q W (hD.below hb) k hl
 have hc:=fun(W:World)(hb:Below w.heap.size w W)=>hL.data.below hb
 clear hL hD;obtain⟨A1,c1⟩:=p;obtain⟨A2,c2⟩:=q;obtain⟨B1,d1⟩:=p';obtain⟨B2,d2⟩:=q';simp only at hc;have hb:=Ap w (.cells #[.string (bs D.data),.slice A1 D.cache.length c1,.int .i64 D.fuse,.bool D.off,.slice A2 D.bad.length c2] 25) (.cells #[.slice B1 L.targets.length d1,.slice B2 L.data.length d2] 63);have x0:=(Blk.new w 25 #[.string (bs D.data),.slice A1 D.cache.length c1,.int .i64 D.fuse,.bool D.off,.slice A2 D.bad.length c2]).alloc (.cells #[.slice B1 L.targets.length d1,.slice B2 L.data.length d2] 63);have z0:=Blk.new (w.alloc (.cells #[.string (bs D.data),.slice A1 D.cache.length c1,.int .i64 D.fuse,.bool D.off,.slice A2 D.bad.length c2] 25)) 63 #[.slice B1 L.targets.length d1,.slice B2 L.data.length d2];simp only[Ys]at z0;by_cases hm:k∈L.targets
 · obtain⟨i,hi0,h1,h2,h3⟩:=Pn.find_in hm;have hid0:i<L.data.length:=by omega
   have Hw:=hid (show Pn.look D L k=(L.data[i],0) by rw[Pn.look,if_pos hm,h3,List.getD_eq_getElem?_getD,List.getElem?_eq_getElem hid0];rfl);rw[h1]at hi;clear hr h1 h2 h3 hm he;go_enter Tryz.func71,Tryz.ntmps71;go_wp2_with fail
   go_at_call 91;refine(hi _ hb).mono ?_;rintro e w1 ⟨rfl,hb1⟩;have k1:=blk2 (z0.below hb1 (by simp));have b1:=bt hb hb1;obtain⟨pb,po,hpa,hcell⟩:=(hc _ b1).str hid0;subst hpa;have y0:=hcell i hid0;clear hcell;go_wp2_with fail
   go_ret2
   exact⟨by rw[Hw.out];rfl,b1⟩
 · have Hw:=hid (show Pn.look D L k=D.read k by rw[Pn.look,if_neg hm]);rw[Pn.find_out hm]at hi;clear hc hm he;go_enter Tryz.func71,Tryz.ntmps71;go_wp2_with fail
   go_at_call 91;refine(hi _ hb).mono ?_;rintro e w1 ⟨rfl,hb1⟩;have k1:=blk2 (z0.below hb1 (by simp));have k2:=blk5 (x0.below hb1 (by simp;omega));have b1:=bt hb hb1;go_wp2_with fail
   go_at_call 98;refine(hr _ b1).mono ?_;rintro e w2 ⟨rfl,hb2⟩;go_wp2_with fail
   go_ret2
   exact⟨by rw[Hw.out];rfl,bt b1 hb2⟩
abbrev gval (g h:Int):Value:=.agg #[.int .i64 g,.int .i64 h]
def geomOk (g h:Int):Bool:=decide (0<g)&&(decide (g<=64)&&(decide (8<=h)&&decide (h<=256)))
theorem DR {g h:Int}:geomOk g h=true↔0<g/\g<=64/\8<=h/\h<=256:=by simp[geomOk]
theorem Em (g h:Int)(w:World):Calls Tryz.prog 43 #[gval g h] w fun e w'=>e=.returned (.bool (geomOk g h))/\Below w.heap.size w w':=by
 have hb:=Yz (W:=w) (.cells #[.int .i64 g,.int .i64 h] 27);by_cases h1:1<=g
 · have h1':0<g:=by omega
   by_cases h2:g<=64
   · by_cases h3:8<=h
     · have Hw:=hid (show geomOk g h=decide (h<=256) by simp[geomOk,h1',h2,h3]);go_enter Tryz.func43,Tryz.ntmps43;go_wp2_with fail
       go_ret
       exact⟨by rw[Hw.out];rfl,hb⟩
     · have Hw:=hid (show geomOk g h=false by simp[geomOk,h3]);go_enter Tryz.func43,Tryz.ntmps43;go_wp2_with fail
       go_ret
       exact⟨by rw[Hw.out];rfl,hb⟩
   · have Hw:=hid (show geomOk g h=false by simp[geomOk,h2]);go_enter Tryz.func43,Tryz.ntmps43;go_wp2_with fail
     go_ret
     exact⟨by rw[Hw.out];rfl,hb⟩
 · have Hw:=hid (show geomOk g h=false by simp[geomOk];omega);go_enter Tryz.func43,Tryz.ntmps43;go_wp2_with fail
   go_ret
   exact⟨by rw[Hw.out];rfl,hb⟩
def F5:List UInt8:=[67,79,70,49]
theorem Gx (k:Nat)(hk:k<256)(w:World):Calls Tryz.prog 94 #[.int .i64 k] w fun e w'=>e=.returned (.tuple #[.int .i64 (87+(k:Int)/32),.int .i64 (2*((k%32:Nat):Int))])/\Below w.heap.size w w':=by
 go_enter Tryz.func94,Tryz.ntmps94;go_wp2_with fail
 go_ret2
 refine⟨?_,Below.refl _ _⟩;simp
theorem BH (k:Int)(h0: -1000000<=k)(h1:k<=1000000)(w:World):Calls Tryz.prog 63 #[.int .i64 k] w fun e w'=>e=.returned (.int .i64 (96+2*k))/\Below w.heap.size w w':=by
 go_enter Tryz.func63,Tryz.ntmps63;go_wp2_with fail
 go_ret
 exact⟨rfl,Below.refl _ _⟩
theorem N3 (w:World):Calls Tryz.prog 152 #[] w fun e w'=>e=.returned (.tuple #[.int .i64 6,.int .i64 81])/\Below w.heap.size w w':=by
 go_enter Tryz.func152,Tryz.ntmps152;go_wp2_with fail
 go_ret2
 exact⟨rfl,Below.refl _ _⟩
theorem Nf (w:World):Calls Tryz.prog 143 #[] w fun e w'=>e=.returned (.tuple #[.int .i64 6,.int .i64 81])/\Below w.heap.size w w':=by
 go_enter Tryz.func143,Tryz.ntmps143;go_wp2_with fail
 go_ret2
 exact⟨rfl,Below.refl _ _⟩
end
end Go.Proofs.YtmiilfnchfdfcaaGreatDoor
