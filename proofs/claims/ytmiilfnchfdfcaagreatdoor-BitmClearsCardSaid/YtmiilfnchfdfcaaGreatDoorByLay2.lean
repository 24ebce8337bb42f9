/- By: Root16, Root18, Lay1, Lay2. -/
import Derived.Test.YtmiilfnchfdfcaaGreatDoorByRoot15
set_option maxRecDepth 100000
set_option maxHeartbeats 40000000
set_option linter.unusedVariables false
namespace Go.Proofs.YtmiilfnchfdfcaaGreatDoor
section
open Go.RowKit Go.Shelf
attribute [local go_sem] Ad Ag Ah Ac Aj Ai
theorem Fo (D:Dk)(L:Pn)(i:Nat):(Pn.dmGet D L i).1.bits.length=64:=by
 unfold Pn.dmGet
 split
 · rfl
 split
 · exact Dm.bits_length _
 · rfl
theorem Ku:∀(l:List Value)(k:Nat)(a:List Value),k+l.length=a.length->(l.zipIdx k).foldl (fun cs x=>cs.setIfInBounds x.2 x.1) a.toArray=(a.take k++l).toArray:=fun l=>by
 induction l with
 |nil=>intro k a h;simp at h;subst h;simp
 |cons v l ih=>
  intro k a h;rw[List.length_cons]at h;rw[List.zipIdx_cons,List.foldl_cons,List.setIfInBounds_toArray,ih (k+1) _ (by rw[List.length_set];omega)]
  congr 1
  rw[List.take_set,List.take_succ_eq_append_getElem (by omega),List.set_append,if_neg (by rw[List.length_take];omega),List.length_take,show k-min k a.length=0 by omega,List.set_cons_zero,List.append_assoc];rfl
theorem EH {P:Program}{ops:Array Oper}{rest:List Oper}{o:Oper}{a:Act}{w w':World}{Q:Exit->Act->World->Prop}(hgd:o.guard=none)(v:Value)(hr:(execOp a.eval o).run P w=.ok (.value v) w')
 (h:wpList P ops Q rest (a.put o.dst v) w'):wpList P ops Q (o::rest) a w:=wpList_plain hgd fun K hK=>by unfold Oper.wp;rw[hr];exact hK _ _ h
theorem Tryz.infoDmap3:(Tryz.prog.info? 42).map (fun i=>(i.zero,i.size,i.bytes))=some (some (dmval Dm.zero),66,88):=by kernel_rfl
theorem Tryz.run_bsd {ρ:Operand->Value}{o:Oper}(x:Operand)(ho:o.op=.buildSlice 31 1 #[(0,x)])(m:Dm)(hm:m.bits.length=64)(hx:ρ x=dmval m)(w:World):
 (execOp ρ o).run Tryz.prog w=.ok (.value (.slice (some ⟨w.heap.size,0,none⟩) 1 1)) (w.alloc (.cells (dmCells m).toArray 42)):=by
 have z36:=Tryz.dm_siz;have hu:=run_underlying (P:=Tryz.prog) Tryz.underlying31 w;unfold execOp;simp[ho,Instr.buildSlice,hx,z36,hu,Sem.run_bind,Value.cells,Instr.fill,AU hm];have hf:=fun(f:Nat->Value)=>Ku (dmCells m) 0 ((List.range dmN).map f) (by rw[AU hm];simp)
 have hr:Array.range dmN=(List.range dmN).toArray:=by simp
 simp only[List.take_zero,List.nil_append]at hf;rw[if_neg (by unfold dmN;omega),if_neg (by unfold dmN;omega),hr];simp only[List.map_toArray,hf];simp[newRow]
theorem NS (D:Dk)(L:Pn)(p q p' q':Pl)(w:World)(hD:IsDk w D p q)(hL:IsPn w L p' q')(hf:D.fit=true)(hfl:L.Fit):
 Calls Tryz.prog 69 #[dval D p q,pval L p' q',.int .i64 2,.func (.func 70) #[] #[]] w fun e w'=>(∃v,e=.returned (.tuple #[v,.int .i64 (Pn.maps D L).2])/\w'.ownsRow w.heap.size 42 66 v (Pn.maps D L).1.length (dmRows (Pn.maps D L).1))/\Below w.heap.size w w':=by
 have Hall:=hid (show Pn.maps D L=allN (Pn.dmGet D L) 2 from rfl);have Hg:=hid (fun(W:World)(hb:Below w.heap.size w W)(k:Nat)(hk:k<2)=>NT D L p q p' q' W (hD.below hb) (hL.below hb) hf hfl k hk);obtain⟨i0,hi,hz0,hz1,hz2⟩:=info_parts Tryz.infoDmap3;have a36:=Tryz.dm_agg;have z36:=Tryz.dm_siz;have zc:=Tryz.dm_zeros;clear hD hL hf hfl;obtain⟨A1,a1⟩:=p;obtain⟨A2,a2⟩:=q;obtain⟨B1,b1⟩:=p';obtain⟨B2,b2⟩:=q';go_enter Tryz.func69,Tryz.ntmps69;go_wp2_with fail
 have hB:=Below.refl w.heap.size w;have x:=Blk.new w 25 #[.string (bs D.data),.slice A1 D.cache.length a1,.int .i64 D.fuse,.bool D.off,.slice A2 D.bad.length a2];have hB_1:=Ya hB x;have z:=Yd hB_1 63 #[.slice B1 L.targets.length b1,.slice B2 L.data.length b2];simp only[Ys]at z;have zk:=blk2 z;have hB_2:=Ya hB_1 z;have x_3:=Yc x hB_2;have xk_3:=blk5 x_3;generalize ((w.alloc (.cells #[.string (bs D.data),.slice A1 D.cache.length a1,.int .i64 D.fuse,.bool D.off,.slice A2 D.bad.length a2] 25)).alloc (.cells #[.slice B1 L.targets.length b1,.slice B2 L.data.length b2] 63))=V at hB_2 x_3 xk_3 z zk ⊢;clear hB_1 hB x;have hB:=hB_2;have x:=x_3;clear hB_2 x_3 xk_3;go_loopw [10,15] (fun l x W=>∃m:Nat,m<=2/\x=.int .i64 m/\Hid (∀i,i<m->(Pn.dmGet D L i).2=0)/\W.ownsRow V.heap.size 42 66 l m (dmRows ((List.range m).map fun i:Nat=>(Pn.dmGet D L i).1))/\Below V.heap.size V W) (fun _ x _=>2-(intOf x).toNat)
 case atStart=>exact⟨0,Nat.zero_le _,rfl,hid (fun i hi=>by omega),World.ownsRow_nil _ _ _ _,Below.refl _ _⟩
 case round=>
  obtain⟨m,hm,rfl,hok,hown,hb⟩:=hrel;have hbw:=hB.trans (hb.mono hB.size);by_cases hlt:m<2
  · have hat:=fun W=>NU m hlt W
    have hget:=fun(W:World)(h:Below wr.heap.size wr W)=>Hg.out W (bt hbw h) m hlt
    obtain⟨⟨M,er⟩,hx⟩:∃X,Pn.dmGet D L m=X:=⟨_,rfl⟩;rw[hx]at hget;obtain⟨PL,hPL⟩:∃P,dmPlace m=P:=⟨_,rfl⟩;rw[hPL]at hget hat;simp only at hget;have Hst:=hid (fun(he:er≠0)=>show Pn.maps D L=([],er) by
     rw[Hall.out,Ig (f:=Pn.dmGet D L) (n:=m) (CF (fun i hi=>hok.out i hi)) (by rw[hx];exact he) 2 hlt,hx])
    have Hok2:=hid (fun(he:er=0)=>And.intro (show∀i,i<m+1->(Pn.dmGet D L i).2=0 from fun i hi=>by
     rcases Nat.lt_or_eq_of_le (Nat.le_of_lt_succ hi)with h|h
     · exact hok.out i h
     · rw[h,hx];exact he) (show dmRows ((List.range m).map fun i:Nat=>(Pn.dmGet D L i).1)++dmCells M=dmRows ((List.range (m+1)).map fun i:Nat=>(Pn.dmGet D L i).1) by rw[Cp,List.range_succ,List.map_append];simp[hx]))
    have hM:M.bits.length=64:=by have:=Fo D L m;rw[hx]at this;exact this
    have lM:=AU hM;have KX:=fun(W:World)(hW:Below wr.heap.size wr W)=>blk5 ((x.below hb x.lt).below hW (x.below hb x.lt).lt)
    have KZ:=fun(W:World)(hW:Below wr.heap.size wr W)=>blk2 ((z.below hb z.lt).below hW (z.below hb z.lt).lt)
    clear zk hx hok hPL;go_upto_region 5 with fail
    go_cut [12,13] (fun s12 s13 W=>∃g,s12=.pointer (some ⟨g,0,none⟩)/\s13=.int .i64 er/\wr.heap.size<=g/\Blk W g 42 (dmCells M).toArray/\Below wr.heap.size wr W)
    case first=>
     have s0:Below wr.heap.size wr wr.drew:=(Below.refl _ _).drew;refine AT (S:=fun W=>Below wr.heap.size wr W) (late:=fun _=>false) (by kernel_rfl) ?_;generalize wr.drew=U0 at s0 ⊢;simp only[Nat.reduceAdd,Yn];refine Yu 0 (some 19) (dval D ⟨A1,a1⟩ ⟨A2,a2⟩) rfl (fun W hW=>by have h:=KX W hW;go_simp) s0 ?_;simp only[Yf];refine Yu 1 (some 20) (pval L ⟨B1,b1⟩ ⟨B2,b2⟩) rfl (fun W hW=>by have h:=KZ W hW;go_simp) s0 ?_;simp only[Yf];refine Yt 2 21 (.func (.func 70) #[] #[]) ?_;simp only[Yf];refine Yt 3 22 (.int .i64 (m:Int)) ?_;simp only[Yf];refine AG (i:=4) (k:=9) (by kernel_rfl) rfl rfl rfl rfl (fun K hK=>?_) (fun K hK=>?_)
     · skip
       refine oper_enter' (f:=70) (args:=#[.int .i64 (m:Int)]) (w':=U0) (by go_simp) ((hat U0).mono ?_);rintro e U1 ⟨rfl,hb0⟩;refine⟨_,rfl,?_⟩;show K (Act.put _ (some 23) _) _;have s1:=bt s0 hb0;refine hK _ _ (fun _ _=>s1) ?_;simp only[Yf];refine AG (i:=5) (k:=9) (by kernel_rfl) rfl rfl rfl rfl (fun K hK=>?_) (fun K hK=>?_)
       · skip
         refine oper_enter' (f:=107) (args:=#[dval D ⟨A1,a1⟩ ⟨A2,a2⟩,pval L ⟨B1,b1⟩ ⟨B2,b2⟩,PL]) (w':=U1) (by go_simp) ((hget U1 s1).mono ?_);rintro e U2 ⟨rfl,hb1⟩;refine⟨_,rfl,?_⟩;show K (Act.put _ (some 24) _) _;have s2:=bt s1 hb1;refine hK _ _ (fun _ _=>s2) ?_;simp only[Yf];refine Yt 6 18 (.tuple #[dmval M,.int .i64 er]) ?_;simp only[Yf];refine Yt 7 25 (dmval M) ?_;simp only[Yf];refine Yt 8 26 (.int .i64 er) ?_;simp only[Yf];refine Yo 9 (fun K hK=>?_);refine An (v:=.pointer (some ⟨U2.heap.size,0,none⟩)) (w':=U2.alloc (.cells (dmCells Dm.zero).toArray 42)) (by go_simp) ?_;show K (Act.put _ (some 12) _) _;have s3:=s2.alloc s2.size (.cells (dmCells Dm.zero).toArray 42);have bz:=Blk.new U2 42 (dmCells Dm.zero).toArray;have gz0:wr.heap.size<=U2.heap.size:=s2.size;refine hK _ _ (fun _ _=>s3) ?_;generalize U2.alloc (.cells (dmCells Dm.zero).toArray 42)=U3 at s3 bz ⊢;generalize U2.heap.size=gz at bz gz0 ⊢;simp only[Yf];refine Yo 10 (fun K hK=>?_);refine Aw (w':=U3.setCells gz 0 (dmCells M)) (by have st:=Tryz.dm_put (a:=Dm.zero) M hM rfl bz;go_simp) ?_;show K (Act.put _ none _) _;have bz3:=AN (a:=Dm.zero) bz M rfl hM;have bw:=AM s3 gz0 M;refine hK _ _ (fun _ _=>bw) ?_
         try simp only[Yf]
         refine Yt 11 13 (.int .i64 er) ?_;simp only[Yf];refine Ar (by kernel_rfl) ?_ _;go_wp2_with fail
         go_meet
         exact⟨gz,rfl,rfl,gz0,bz3,bw⟩
       · skip
         refine An (v:=.pointer (some ⟨U1.heap.size,0,none⟩)) (w':=U1.alloc (.cells (dmCells Dm.zero).toArray 42)) (by go_simp) ?_;show K (Act.put _ (some 12) _) _;have s2:=s1.alloc s1.size (.cells (dmCells Dm.zero).toArray 42);have bz:=Blk.new U1 42 (dmCells Dm.zero).toArray;have gz0:wr.heap.size<=U1.heap.size:=s1.size;refine hK _ _ (fun _ _=>s2) ?_;generalize U1.alloc (.cells (dmCells Dm.zero).toArray 42)=U2 at s2 bz ⊢;generalize U1.heap.size=gz at bz gz0 ⊢;simp only[Yf];refine Yo 5 (fun K hK=>?_);refine oper_enter' (f:=107) (args:=#[dval D ⟨A1,a1⟩ ⟨A2,a2⟩,pval L ⟨B1,b1⟩ ⟨B2,b2⟩,PL]) (w':=U2) (by go_simp) ((hget U2 s2).mono ?_);rintro e U3 ⟨rfl,hb2⟩;refine⟨_,rfl,?_⟩;show K (Act.put _ (some 24) _) _;have s3:=bt s2 hb2;replace bz:=bz.below hb2 bz.lt;refine hK _ _ (fun _ _=>s3) ?_;simp only[Yf];refine Yt 6 18 (.tuple #[dmval M,.int .i64 er]) ?_;simp only[Yf];refine Yt 7 25 (dmval M) ?_;simp only[Yf];refine Yt 8 26 (.int .i64 er) ?_;simp only[Yf];refine Yo 10 (fun K hK=>?_);refine Aw (w':=U3.setCells gz 0 (dmCells M)) (by have st:=Tryz.dm_put (a:=Dm.zero) M hM rfl bz;go_simp) ?_;show K (Act.put _ none _) _;have bz3:=AN (a:=Dm.zero) bz M rfl hM;have bw:=AM s3 gz0 M;refine hK _ _ (fun _ _=>bw) ?_
         try simp only[Yf]
         refine Yt 11 13 (.int .i64 er) ?_;simp only[Yf];refine Ar (by kernel_rfl) ?_ _;go_wp2_with fail
         go_meet
         exact⟨gz,rfl,rfl,gz0,bz3,bw⟩
     · skip
       refine An (v:=.pointer (some ⟨U0.heap.size,0,none⟩)) (w':=U0.alloc (.cells (dmCells Dm.zero).toArray 42)) (by go_simp) ?_;show K (Act.put _ (some 12) _) _;have s1:=s0.alloc s0.size (.cells (dmCells Dm.zero).toArray 42);have bz:=Blk.new U0 42 (dmCells Dm.zero).toArray;have gz0:wr.heap.size<=U0.heap.size:=s0.size;refine hK _ _ (fun _ _=>s1) ?_;generalize U0.alloc (.cells (dmCells Dm.zero).toArray 42)=U1 at s1 bz ⊢;generalize U0.heap.size=gz at bz gz0 ⊢;simp only[Yf];refine Yo 4 (fun K hK=>?_);refine oper_enter' (f:=70) (args:=#[.int .i64 (m:Int)]) (w':=U1) (by go_simp) ((hat U1).mono ?_);rintro e U2 ⟨rfl,hb1⟩;refine⟨_,rfl,?_⟩;show K (Act.put _ (some 23) _) _;have s2:=bt s1 hb1;replace bz:=bz.below hb1 bz.lt;refine hK _ _ (fun _ _=>s2) ?_;simp only[Yf];refine Yo 5 (fun K hK=>?_);refine oper_enter' (f:=107) (args:=#[dval D ⟨A1,a1⟩ ⟨A2,a2⟩,pval L ⟨B1,b1⟩ ⟨B2,b2⟩,PL]) (w':=U2) (by go_simp) ((hget U2 s2).mono ?_);rintro e U3 ⟨rfl,hb2⟩;refine⟨_,rfl,?_⟩;show K (Act.put _ (some 24) _) _;have s3:=bt s2 hb2;replace bz:=bz.below hb2 bz.lt;refine hK _ _ (fun _ _=>s3) ?_;simp only[Yf];refine Yt 6 18 (.tuple #[dmval M,.int .i64 er]) ?_;simp only[Yf];refine Yt 7 25 (dmval M) ?_;simp only[Yf];refine Yt 8 26 (.int .i64 er) ?_;simp only[Yf];refine Yo 10 (fun K hK=>?_);refine Aw (w':=U3.setCells gz 0 (dmCells M)) (by have st:=Tryz.dm_put (a:=Dm.zero) M hM rfl bz;go_simp) ?_;show K (Act.put _ none _) _;have bz3:=AN (a:=Dm.zero) bz M rfl hM;have bw:=AM s3 gz0 M;refine hK _ _ (fun _ _=>bw) ?_
       try simp only[Yf]
       refine Yt 11 13 (.int .i64 er) ?_;simp only[Yf];refine Ar (by kernel_rfl) ?_ _;go_wp2_with fail
       go_meet
       exact⟨gz,rfl,rfl,gz0,bz3,bw⟩
    case rest=>
     obtain⟨g,rfl,rfl,hgw,bz,hbz⟩:=hcut;have bzk:=Tryz.dm_all M hM bz;have bw:=bt hbw hbz;by_cases he:er=0
     · subst he;have o2:=AD hown hbz;have b3:=hb.trans (hbz.mono hb.size);have l2:=b3.size;go_wp2_with (first|(refine EH rfl _ (Tryz.run_bsd _ rfl M hM rfl _) ?_)|(at_builtin;refine wpList_append_own _ rfl _ _ 31 rfl V.heap.size 42 i0 (dmval Dm.zero) 66 88 Tryz.underlying31 hi hz0 hz1 hz2 rfl (by decide) _ _ _ rfl (o2.alloc _) ⟨wc.heap.size,0,none⟩ 1 1 (dmCells M) rfl (AH hM) (World.news_of_block (Blk.new wc 42 (dmCells M).toArray)) (BF M) (by unfold maxLen;omega) (by omega) (by simp;omega) ?_;intro v5 w5 h5 gr5 _))
       have b5:=(b3.alloc b3.size (.cells (dmCells M).toArray 42)).trans (Bf (o2.alloc (.cells (dmCells M).toArray 42)) gr5 (by simp;omega));go_roundw
       case rel=>exact⟨m+1,by omega,by go_num,hid (Hok2.out (by first|rfl|trivial)).1,by rw[<-(Hok2.out (by first|rfl|trivial)).2];exact h5,b5⟩
       case measure=>simp[intOf];omega
     · have n1:(er !=0)=true:=bne_iff_ne.2 he;have Hst2:=hid (Hst.out he);clear he;go_wp2_with fail
       go_ret2
       rw[Hst2.out];exact⟨⟨_,rfl,World.ownsRow_nil _ _ _ _⟩,bw⟩
  · obtain rfl:m=2:=by omega
    have Hr:=hid (If hok.out);clear hok;go_wp2_with fail
    go_ret2
    rw[Hall.out,Hr.out];refine⟨⟨_,rfl,?_⟩,hbw⟩;simp only[List.length_map,List.length_range];exact Bb hown hB.size
theorem CA (D:Dk)(L:Pn)(p q p' q':Pl)(w:World)(hD:IsDk w D p q)(hL:IsPn w L p' q')(hf:D.fit=true)(hfl:L.Fit):
 Calls Tryz.prog 28 #[dval D p q,pval L p' q'] w fun e w'=>(∃v,e=.returned (.tuple #[v,.int .i64 (Pn.maps D L).2])/\w'.ownsRow w.heap.size 42 66 v (Pn.maps D L).1.length (dmRows (Pn.maps D L).1))/\Below w.heap.size w w':=by
 have hall:=fun(W:World)(hb:Below w.heap.size w W)=>NS D L p q p' q' W (hD.below hb) (hL.below hb) hf hfl
 clear hD hL hf hfl;obtain⟨A1,a1⟩:=p;obtain⟨A2,a2⟩:=q;obtain⟨B1,b1⟩:=p';obtain⟨B2,b2⟩:=q';have hB:=Below.refl w.heap.size w;have x:=Blk.new w 25 #[.string (bs D.data),.slice A1 D.cache.length a1,.int .i64 D.fuse,.bool D.off,.slice A2 D.bad.length a2];have hB_1:=Ya hB x;have z:=Yd hB_1 63 #[.slice B1 L.targets.length b1,.slice B2 L.data.length b2];simp only[Ys]at z;have zk:=blk2 z;have hB_2:=Ya hB_1 z;have x_3:=Yc x hB_2;have xk_3:=blk5 x_3;go_enter Tryz.func28,Tryz.ntmps28;go_wp2_with fail
 go_at_call 69;refine((hall _ hB_2)).mono ?_;rintro e w1 ⟨⟨v,rfl,hown⟩,hb1⟩;replace hB:=bt hB_2 hb1;replace x:=x_3.below hb1 x_3.lt;replace z:=z.below hb1 z.lt;replace zk:=blk2 z;clear hB_1 hB_2 xk_3 x_3;go_wp2_with fail
 go_ret2
 exact⟨⟨_,rfl,Bb hown (by simp;omega)⟩,hB⟩
theorem Eu (L:Pn)(p q:Pl)(w:World)(hL:IsPn w L p q)(ht:L.targets.length<=1000000)(he:L.targets.length=L.data.length)(i:Int)(m:Dm)(h64:m.bits.length=64)(hm:m.name.length<=maxLen)(hi64:okInt i):
 Calls Tryz.prog 38 #[pval L p q,.int .i64 i,dmval m] w fun e w'=>RetPn w.heap.size L p q (Pn.dmSet L i m) e w'/\Below w.heap.size w w':=by
 have hws:=fun W=>GK m h64 hm W
 have Hz:=hid (fun(W:World)(hb:Below w.heap.size w W)=>hL.below hb);have hpt:=fun(W:World)(hb:Below w.heap.size w W)(k:Int)(t:List UInt8)(h1: -9223372036854775808<=k/\k<=9223372036854775807)(h2:t.length<=9223372036854775807)=>L5 L p q W (hL.below hb) k h1 t h2 ht he
 have hap:=fun g (hg:w.heap.size<=g)=>hL.apart hg
 have a36:=Tryz.dm_agg;have z36:=Tryz.dm_siz;clear hL ht he;obtain⟨A1,a1⟩:=p;obtain⟨A2,a2⟩:=q;have hB:=Below.refl w.heap.size w;have z:=Blk.new w 63 #[.slice A1 L.targets.length a1,.slice A2 L.data.length a2];have zk:=blk2 z;have hB_1:=Ya hB z;have y:=Blk.new (w.alloc (.cells #[.slice A1 L.targets.length a1,.slice A2 L.data.length a2] 63)) 42 (dmCells m).toArray;simp only[Ys]at y;have hB_2:=hB_1.alloc hB_1.size (.cells (dmCells m).toArray 42);have z_3:=Yc z hB_2;have zk_3:=blk2 z_3;by_cases h:i<0\/2<=i
 · have Hr:=hid (show Pn.dmSet L i m=(L,10) by rw[Pn.dmSet,if_pos h]);by_cases h0:i<0
   · have d0:decide (i<0)=true:=decide_eq_true h0;clear h hws hpt h0;go_enter Tryz.func38,Tryz.ntmps38;have r:=Yd hB_2 63 #[.slice A1 L.targets.length a1,.slice A2 L.data.length a2];simp only[Ys]at r;have rk:=blk2 r;have rkf:=r.fz;have hB_4:=Ya hB_2 r;have z_5:=Yc z_3 hB_4;have y_6:=Yc y hB_4;have yk_6:=Tryz.dm_all m h64 y_6;have i2:=Hz.out _ hB_4;have b8:=hB_4;have yy:=rk;go_wp2_with fail
     refine bodyPost_ret (v:=.tuple #[pval L ⟨A1,a1⟩ ⟨A2,a2⟩,.int .i64 10]) (by simp[results,Tryz.results38,go_sem,yy]) rfl ?_;rw[Hr.out];exact⟨⟨⟨A1,a1⟩,⟨A2,a2⟩,rfl,i2,fun g _ h=>h⟩,b8⟩
   · have d0:decide (i<0)=false:=decide_eq_false h0;have d1:decide ((2:Int)<=i)=true:=decide_eq_true (by omega);clear h hws hpt h0;go_enter Tryz.func38,Tryz.ntmps38;have r:=Yd hB_2 63 #[.slice A1 L.targets.length a1,.slice A2 L.data.length a2];simp only[Ys]at r;have rk:=blk2 r;have rkf:=r.fz;have hB_4:=Ya hB_2 r;have z_5:=Yc z_3 hB_4;have y_6:=Yc y hB_4;have yk_6:=Tryz.dm_all m h64 y_6;have i2:=Hz.out _ hB_4;have b8:=hB_4;have yy:=rk;go_wp2_with fail
     refine bodyPost_ret (v:=.tuple #[pval L ⟨A1,a1⟩ ⟨A2,a2⟩,.int .i64 10]) (by simp[results,Tryz.results38,go_sem,yy]) rfl ?_;rw[Hr.out];exact⟨⟨⟨A1,a1⟩,⟨A2,a2⟩,rfl,i2,fun g _ h=>h⟩,b8⟩
 · have d0:decide (i<0)=false:=decide_eq_false (by omega);have d1:decide ((2:Int)<=i)=false:=decide_eq_false (by omega);cases hk:m.ok with
   |false=>
    have Hr:=hid (show Pn.dmSet L i m=(L,25) by rw[Pn.dmSet,if_neg h,if_pos hk]);rw[hk]at hws;clear h hpt hk;have r:=Yd hB_2 63 #[.slice none 0 0,.slice none 0 0];simp only[Ys]at r;have rk:=blk2 r;have rkf:=r.fz;have hB_4:=Ya hB_2 r;have z_5:=Yc z_3 hB_4;have y_6:=Yc y hB_4;have yk_6:=Tryz.dm_all m h64 y_6;go_enter Tryz.func38,Tryz.ntmps38;go_wp2_with fail
    go_at_call 76;refine((hws _)).mono ?_;rintro e w1 ⟨⟨b,rfl,_⟩,hb1⟩;replace hB:=bt hB_4 hb1;replace z:=z_5.below hb1 z_5.lt;replace zk:=blk2 z;replace y:=y_6.below hb1 y_6.lt;replace r:=r.below hb1 r.lt;replace rk:=blk2 r;replace rkf:=r.fz;clear hB_1 hB_2 zk_3 z_3 hB_4 z_5 yk_6 y_6;have hrl:=r.lt;have i0:=Hz.out _ hB;have yy:=blk2 (Ae r (.slice A1 L.targets.length a1) (.slice A2 L.data.length a2));have i2:=i0.off2 (g:=w.heap.size+1+1) (hap _ (by omega)) (.slice A1 L.targets.length a1) (.slice A2 L.data.length a2);have b8:=Af hB (g:=w.heap.size+1+1) (by omega) (.slice A1 L.targets.length a1) (.slice A2 L.data.length a2);go_wp2_with fail
    refine bodyPost_ret (v:=.tuple #[pval L ⟨A1,a1⟩ ⟨A2,a2⟩,.int .i64 25]) (by simp[results,Tryz.results38,go_sem,yy]) rfl ?_;rw[Hr.out];exact⟨⟨⟨A1,a1⟩,⟨A2,a2⟩,rfl,i2,fun g _ h=>h⟩,b8⟩
   |true=>
    have hbl:=Dm.bytes_length hk;obtain⟨a,e1⟩:∃a:Int,4+i=a:=⟨_,rfl⟩;have Hr:=hid (show Pn.dmSet L i m=L.set a m.bytes by rw[Pn.dmSet,if_neg h,if_neg (by rw[hk];simp),e1]);rw[hk]at hws;have hp2:=fun(W:World)(hb:Below w.heap.size w W)=>hpt W hb a m.bytes (by omega) (by rw[hbl];decide)
    have hsec: -9223372036854775808<=a/\a<=9223372036854775807:=by omega
    generalize m.bytes=T at*;generalize L.set a T=X at*;clear h hpt hk;have r:=Yd hB_2 63 #[.slice none 0 0,.slice none 0 0];simp only[Ys]at r;have rk:=blk2 r;have rkf:=r.fz;have hB_4:=Ya hB_2 r;have z_5:=Yc z_3 hB_4;have y_6:=Yc y hB_4;have yk_6:=Tryz.dm_all m h64 y_6;go_enter Tryz.func38,Tryz.ntmps38;go_wp2_with fail
    go_at_call 76;refine((hws _)).mono ?_;rintro e w1 ⟨⟨b,rfl,hbt⟩,hb1⟩;replace hB:=bt hB_4 hb1;replace z:=z_5.below hb1 z_5.lt;replace zk:=blk2 z;replace y:=y_6.below hb1 y_6.lt;replace r:=r.below hb1 r.lt;replace rk:=blk2 r;replace rkf:=r.fz;clear hB_1 hB_2 zk_3 z_3 hB_4 z_5 yk_6 y_6;have hrl:=r.lt;obtain rfl:b=T:=hbt (by first|rfl|trivial);clear hbt;go_wp2_with fail
    go_at_call 77;refine((hp2 _ hB)).mono ?_;rintro e w3 ⟨⟨p3,q3,rfl,i3,o3⟩,hb3⟩;replace hB:=bt hB hb3;replace z:=z.below hb3 z.lt;replace zk:=blk2 z;replace y:=y.below hb3 y.lt;replace r:=r.below hb3 r.lt;replace rk:=blk2 r;replace rkf:=r.fz;have or3:=o3 (w.heap.size+1+1) (by omega) (hap _ (by omega));go_wp2_with fail
    have yy:=blk2 (Ae r (.slice p3.a X.1.targets.length p3.c) (.slice q3.a X.1.data.length q3.c));have i4:=i3.off2 or3 (.slice p3.a X.1.targets.length p3.c) (.slice q3.a X.1.data.length q3.c);have b8:=Af hB (g:=w.heap.size+1+1) (by omega) (.slice p3.a X.1.targets.length p3.c) (.slice q3.a X.1.data.length q3.c);refine bodyPost_ret (v:=.tuple #[pval X.1 p3 q3,.int .i64 X.2]) (by simp[results,Tryz.results38,go_sem,yy]) rfl ?_;rw[Hr.out];exact⟨⟨p3,q3,rfl,i4,fun g h1 h2=>o3 g (by omega) h2⟩,b8⟩
end
section
open Go.RowKit Go.Shelf
attribute [local go_sem] Ad Ag Ah Ac Aj Ai Oper.semAt_some
def Pn.secs (L:Pn):List (Int×List UInt8):=L.targets.zip L.data
def secEnc (Z:List (Int×List UInt8))(i:Fin Z.length):Array Value:=#[.int .i64 Z[i.val].1,.string (bs Z[i.val].2)]
theorem BJ (L:Pn)(m:Nat)(hm:m<L.secs.length):∃(h1:m<L.targets.length)(h2:m<L.data.length),L.secs[m]=(L.targets[m],L.data[m]):=by
 have h:=hm;rw[Pn.secs,List.length_zip]at h;exact⟨by omega,by omega,List.getElem_zip⟩
theorem Cg (L:Pn)(h:L.targets.length=L.data.length):L.secs.length=L.targets.length:=by
 rw[Pn.secs,List.length_zip];omega
def picked {α:Type}(Z:List α)(pre:List (Fin Z.length)):List α:=pre.map fun i=>Z[i.val]
theorem BB {α:Type}(Z:List α)(pre:List (Fin Z.length))(i:Fin Z.length):picked Z (pre++[i])=picked Z pre++[Z[i.val]]:=by
 unfold picked;rw[List.map_append];rfl
theorem Gk {α:Type}(Z:List α)(pre:List (Fin Z.length))(m:Nat)(hm:m<Z.length)(h:picked Z pre=Z.take m):picked Z (pre++[⟨m,hm⟩])=Z.take (m+1):=by
 rw[BB,h,List.take_succ_eq_append_getElem hm]
theorem BS {B:Nat}{X Y:World}(h:Below X.heap.size X Y):KeepsFrom B X Y:=
 ⟨h.size,fun k o _ hk _=>(h.block k (Array.getElem?_eq_some_iff.1 hk).1).trans hk⟩
theorem GR (n:Nat)(hn:1<=n)(L:Pn)(p' q':Pl)(hlen:L.targets.length=L.data.length)(hmany:L.targets.length<=1000000)(B0 Bp:Nat)(w:World)(h0:B0<=w.heap.size)
 (hLW:∀W,Below B0 w W->IsPn W L p' q') (bp:Blk w Bp 63 #[.slice p'.a L.targets.length p'.c,.slice q'.a L.data.length q'.c]):
 SeqO Fence.wide n Tryz.prog 189 #[.pointer (some ⟨Bp,0,none⟩)] (secEnc L.secs) (KeepB B0 [Bp])
  (fun ys=>picked L.secs ys=L.secs) (fun pre=>∃m,m<L.secs.length/\picked L.secs pre=L.secs.take (m+1)) L.secs.length w:=by
 intro l J Jx W hW hJ hJx hY h0J;have HY:=hid hY;have Hlen:=hid hlen;have kW:KeepB B0 [Bp] w W:=KeepB.later hW h0 (fun g hg=>by
  simp only[List.mem_cons,List.not_mem_nil,or_false]at hg
  rcases hg with rfl
  exact bp.lt)
 obtain⟨B1,b1⟩:=p';obtain⟨B2,b2⟩:=q';have in1:Bp∈[Bp]:=by simp
 have bp0:=blk2 (bp.at_ (kW.at_ _ in1));clear hlen hY;refine callsIn_of_wp Tryz.func189 rfl trivial ?_ rfl;simp only[Tryz.ntmps189,Nat.reduceAdd,Nat.reduceSub,Yn]
 gi_wp2
 gi_loopw [8] (fun x V=>∃m:Nat,m<=L.targets.length/\x=.int .i64 m/\(∃pre,pre.length=m/\Hid (picked L.secs pre=L.secs.take m)/\J pre V)/\KeepB B0 [Bp] w V) (fun x _=>L.targets.length-(intOf x).toNat)
 case atStart=>exact⟨0,Nat.zero_le _,rfl,⟨[],rfl,hid rfl,h0J⟩,kW⟩
 case round=>
  obtain⟨m,hm,rfl,⟨pre,hpl,hpm,hJm⟩,hk⟩:=hrel;have Hpl:=hid hpl;clear bp0 h0J kW hpl;by_cases hlt:m<L.targets.length
  · have hm2:m<L.data.length:=by have:=Hlen.out;omega
    have hP:=hLW wr hk.below;obtain⟨c1,o1,e1,ct⟩:=hP.targets.int hlt;obtain⟨c2,o2,e2,cs⟩:=hP.data.str hm2;have e1':B1=some ⟨c1,o1,none⟩:=e1;have e2':B2=some ⟨c2,o2,none⟩:=e2;subst e1' e2';have ct:=ct m hlt;have cs:=cs m hm2;have hz:m<L.secs.length:=by rw[Cg L Hlen.out];omega
    have Hze:=hid (BJ L m hz);have Hz:=hid (Gk L.secs pre m hz hpm.out);have bp0:=blk2 (bp.at_ (hk.at_ _ in1));obtain⟨fn,tmps,assign,body,hy,hR⟩:=HY.out pre ⟨m,hz⟩ wr hJm (by rw[Hpl.out];exact hz);obtain⟨_,_,hze⟩:=Hze.out;simp only[secEnc,hze]at hy;clear hze;clear hP e1 e2 hJm
    gi_wp2
    refine hR.mono ?_;rintro e W3 (⟨rfl,hJ3,hst,hk3⟩|⟨rfl,hJx3,_⟩)
    · have HJ3:=hid hJ3;clear hJ3
      gi_wp2
      go_roundw
      case rel=>exact⟨m+1,by omega,by go_num,⟨_,by rw[List.length_append,Hpl.out];rfl,Hz,HJ3.out⟩,hk.trans hk3⟩
      case measure=>simp[intOf];omega
    · gi_wp2
      refine bodyPost_ret (results_none rfl _ _ _) rfl ?_;exact⟨⟨_,rfl⟩,.inr ⟨_,⟨m,hz,Hz.out⟩,hJx3⟩⟩
  · obtain rfl:m=L.targets.length:=by omega
    gi_wp2
    go_end0
    exact⟨⟨_,rfl⟩,.inl ⟨pre,by rw[hpm.out,List.take_of_length_le (by rw[Cg L Hlen.out];omega)],hJm⟩⟩
theorem GQ (n:Nat)(L:Pn)(p' q':Pl)(w:World):
 CallsIn Fence.wide n Tryz.prog 174 #[pval L p' q'] w fun e w'=>e=.returned (.func (.func 189) #[] #[.pointer (some ⟨w.heap.size,0,none⟩)])/\
  w'=w.alloc (.cells #[.slice p'.a L.targets.length p'.c,.slice q'.a L.data.length q'.c] 63):=by
 refine callsIn_of_wp Tryz.func174 rfl trivial ?_ rfl;simp only[Tryz.ntmps174,Nat.reduceAdd,Nat.reduceSub,Yn]
 gi_wp2
 go_ret
 exact⟨rfl,rfl⟩
namespace Dk
theorem layIn_snoc:∀(l:List (Int×List UInt8))(D:Dk)(x:Int×List UInt8),(layIn l D).2=0->layIn (l++[x]) D=(layIn l D).1.write x.1 x.2:=by
 intro l
 induction l with
 |nil=>
  intro D x _;show layIn [x] D=D.write x.1 x.2;rw[layIn]
  split
  · rfl
  · rename_i h
    have h:(D.write x.1 x.2).2=0:=by simpa using h
    exact Prod.ext rfl h.symm
 |cons a l ih=>
  intro D x h;rw[List.cons_append,layIn];rw[layIn]at h
  split
  · rename_i h1
    rw[if_pos h1]at h;exact absurd h h1
  · rename_i h1
    rw[if_neg h1]at h;rw[layIn,if_neg h1];exact ih _ _ h
theorem layIn_stop:∀(l r:List (Int×List UInt8))(D:Dk),(layIn l D).2≠0->layIn (l++r) D=layIn l D:=by
 intro l
 induction l with
 |nil=>intro r D h;exact absurd rfl h
 |cons a l ih=>
  intro r D h;rw[List.cons_append,layIn,layIn];rw[layIn]at h
  split
  · rfl
  · rename_i h1
    rw[if_neg h1]at h;exact ih _ _ h
end Dk
structure LayBox (V:World) (B0:Nat) (t t':TypeId) (D0:Dk) (p0 q0:Pl) (X:Dk×Int):Prop where
 ex:∃p q:Pl,Blk V B0 t #[.string (bs X.1.data),.slice p.a X.1.cache.length p.c,.int .i64 X.1.fuse,.bool X.1.off,.slice q.a X.1.bad.length q.c]/\IsDk V X.1 p q/\(∀g,g<=B0+1+1+1+1->(g<B0->DkOff g D0 p0 q0)->DkOff g X.1 p q)
 zero:Blk V (B0+1+1) t #[.string (bs []),.slice none 0 0,.int .i64 0,.bool false,.slice none 0 0]
 err:Blk V (B0+1+1+1) t' #[.int .i64 X.2]
theorem FR (B B0:Nat)(t t':TypeId)(D0:Dk)(p0 q0:Pl)(X:Dk×Int):OwnFrom B (fun(_:Unit) V=>LayBox V B0 t t' D0 p0 q0 X):=by
 rintro s Y Z row ⟨⟨p,q,h1,h2,h3⟩,h4,h5⟩ hy hr;exact⟨⟨p,q,(Own.from (AA _ _ (fun _:Unit=>_)) _) () Y Z row h1 hy hr,h2.kept hy (fun r e=>(hr r e).2),h3⟩,(Own.from (AA _ _ (fun _:Unit=>_)) _) () Y Z row h4 hy hr,(Own.from (AA _ _ (fun _:Unit=>_)) _) () Y Z row h5 hy hr⟩
theorem FU {w W W2:World}{B0 BV:Nat}{t t':TypeId}{X E:Dk}{p1 q1 p2 q2:Pl}{xe er:Int}(hsz:BV<=W.heap.size)(h0:B0+1+1+1+1<BV)(hb:Below B0 w W)(hb2:Below W.heap.size W W2)
 (y1:Blk W2 B0 t #[.string (bs X.data),.slice p1.a X.cache.length p1.c,.int .i64 X.fuse,.bool X.off,.slice q1.a X.bad.length q1.c]) (y5:Blk W2 (B0+1+1+1) t' #[.int .i64 xe])
 (hI:Blk W (B0+1+1) t #[.string (bs []),.slice none 0 0,.int .i64 0,.bool false,.slice none 0 0]) {D0:Dk} {p0 q0:Pl} (h3:∀g,g<=B0+1+1+1+1->(g<B0->DkOff g D0 p0 q0)->DkOff g X p1 q1)
 (i2:IsDk W2 E p2 q2) (o2:∀g,g<W.heap.size->DkOff g X p1 q1->DkOff g E p2 q2) {W3:World}
 (e:W3=(((((W2.setCell ⟨B0,0,none⟩ (.string (bs E.data))).setCell ⟨B0,1,none⟩ (.slice p2.a E.cache.length p2.c)).setCell ⟨B0,2,none⟩ (.int .i64 E.fuse)).setCell ⟨B0,3,none⟩ (.bool E.off)).setCell ⟨B0,4,none⟩ (.slice q2.a E.bad.length q2.c)).setCell ⟨B0+1+1+1,0,none⟩ (.int .i64 er)):
 LayBox W3 B0 t t' D0 p0 q0 (E,er)/\Below B0 w W3/\BV<=W3.heap.size/\KeepsFrom BV W W3/\Stays (BV+2) W W3/\KeepB B0 [B0+1+1+1+1] W W3:=by
 have s0:=Ao y1 (.string (bs E.data)) (.slice p2.a E.cache.length p2.c) (.int .i64 E.fuse) (.bool E.off) (.slice q2.a E.bad.length q2.c);have s5:=At y5 (g:=B0) (by omega) (.string (bs E.data)) (.slice p2.a E.cache.length p2.c) (.int .i64 E.fuse) (.bool E.off) (.slice q2.a E.bad.length q2.c);have sI:=At (hI.below hb2 hI.lt) (g:=B0) (by omega) (.string (bs E.data)) (.slice p2.a E.cache.length p2.c) (.int .i64 E.fuse) (.bool E.off) (.slice q2.a E.bad.length q2.c);have sD:=i2.off5 (g:=B0) (o2 B0 (by omega) (h3 _ (by omega) (fun h=>absurd h (by omega)))) (.string (bs E.data)) (.slice p2.a E.cache.length p2.c) (.int .i64 E.fuse) (.bool E.off) (.slice q2.a E.bad.length q2.c);have sb:=Am (Below.refl (B0) W2) (g:=B0) (Nat.le_refl _) (.string (bs E.data)) (.slice p2.a E.cache.length p2.c) (.int .i64 E.fuse) (.bool E.off) (.slice q2.a E.bad.length q2.c);have sk:∀g,g≠B0->(((((W2.setCell ⟨B0,0,none⟩ (.string (bs E.data))).setCell ⟨B0,1,none⟩ (.slice p2.a E.cache.length p2.c)).setCell ⟨B0,2,none⟩ (.int .i64 E.fuse)).setCell ⟨B0,3,none⟩ (.bool E.off)).setCell ⟨B0,4,none⟩ (.slice q2.a E.bad.length q2.c)).heap[g]? =W2.heap[g]? :=fun g hg=>by
  rw[Below.heap_setCell _ _ _ _ hg,Below.heap_setCell _ _ _ _ hg,Below.heap_setCell _ _ _ _ hg,Below.heap_setCell _ _ _ _ hg,Below.heap_setCell _ _ _ _ hg]
 have so:KeepsOthers W2 (((((W2.setCell ⟨B0,0,none⟩ (.string (bs E.data))).setCell ⟨B0,1,none⟩ (.slice p2.a E.cache.length p2.c)).setCell ⟨B0,2,none⟩ (.int .i64 E.fuse)).setCell ⟨B0,3,none⟩ (.bool E.off)).setCell ⟨B0,4,none⟩ (.slice q2.a E.bad.length q2.c)):=
  ((((KeepsOthers.setCell _ _ _).trans (KeepsOthers.setCell _ _ _)).trans (KeepsOthers.setCell _ _ _)).trans (KeepsOthers.setCell _ _ _)).trans (KeepsOthers.setCell _ _ _)
 generalize (((((W2.setCell ⟨B0,0,none⟩ (.string (bs E.data))).setCell ⟨B0,1,none⟩ (.slice p2.a E.cache.length p2.c)).setCell ⟨B0,2,none⟩ (.int .i64 E.fuse)).setCell ⟨B0,3,none⟩ (.bool E.off)).setCell ⟨B0,4,none⟩ (.slice q2.a E.bad.length q2.c))=U at*;subst e;have hU:=sb.size;have hW2:=hb2.size;have hne:∀g,g≠B0->g≠B0+1+1+1->(U.setCell ⟨B0+1+1+1,0,none⟩ (.int .i64 er)).heap[g]? =W2.heap[g]? :=fun g h1 h2=>(Below.heap_setCell _ _ _ _ h2).trans (sk g h1)
 have hsb:Below B0 W2 (U.setCell ⟨B0+1+1+1,0,none⟩ (.int .i64 er)):=sb.setCell (p:=⟨B0+1+1+1,0,none⟩) (by simp;omega) _;have h2:Below B0 W (U.setCell ⟨B0+1+1+1,0,none⟩ (.int .i64 er)):=(hb2.mono (by omega)).trans hsb;refine⟨⟨⟨p2,q2,s0.other (a:=⟨B0+1+1+1,0,none⟩) (by simp;omega) _,sD.off (a:=⟨B0+1+1+1,0,none⟩) (o2 (B0+1+1+1) (by omega) (h3 (B0+1+1+1) (by omega) (fun h=>absurd h (by omega)))) _,fun g g1 g2=>o2 g (by omega) (h3 g g1 g2)⟩,sI.other (a:=⟨B0+1+1+1,0,none⟩) (by simp) _,?_⟩,hb.trans h2,by simp;omega,
  (BS hb2).trans ((so.trans (KeepsOthers.setCell _ _ _)).from _),(Stays.below hb2 (Nat.le_refl _)).trans ⟨hsb.size,fun k hk _=>hne k (by omega) (by omega)⟩,⟨h2,fun g hg=>?_⟩⟩
 · have:=s5.set 0 (.int .i64 er);simpa using this
 · obtain rfl:g=B0+1+1+1+1:=by simpa using hg
   exact(hne _ (by omega) (by omega)).trans (hb2.block _ (by omega))
theorem FT {w U:World}{B0:Nat}{t:TypeId}{X:Dk}{p1 q1:Pl}(hb:Below B0 w U)
 (h4:Blk U (B0+1+1) t #[.string (bs []),.slice none 0 0,.int .i64 0,.bool false,.slice none 0 0]) {D0:Dk} {p0 q0:Pl} (h3:∀g,g<=B0+1+1+1+1->(g<B0->DkOff g D0 p0 q0)->DkOff g X p1 q1)
 (h2:IsDk U X p1 q1) {Dd:Nat} (hDd:B0+1+1<Dd) (hK:U.heap[Dd]? =some (.deferred (some []))) {U2:World}
 (e:U2=(((((U.setCell ⟨B0+1+1,0,none⟩ (.string (bs X.data))).setCell ⟨B0+1+1,1,none⟩ (.slice p1.a X.cache.length p1.c)).setCell ⟨B0+1+1,2,none⟩ (.int .i64 X.fuse)).setCell ⟨B0+1+1,3,none⟩ (.bool X.off)).setCell ⟨B0+1+1,4,none⟩ (.slice q1.a X.bad.length q1.c)).drew):
 U2.heap[Dd]? =some (.deferred (some []))/\Blk (U2.putObj Dd (.deferred none)) (B0+1+1) t #[.string (bs X.data),.slice p1.a X.cache.length p1.c,.int .i64 X.fuse,.bool X.off,.slice q1.a X.bad.length q1.c]/\
  IsDk (U2.putObj Dd (.deferred none)) X p1 q1/\Below B0 w (U2.putObj Dd (.deferred none)):=by
 have s0:=Ao h4 (.string (bs X.data)) (.slice p1.a X.cache.length p1.c) (.int .i64 X.fuse) (.bool X.off) (.slice q1.a X.bad.length q1.c);have sD:=h2.off5 (g:=B0+1+1) (h3 _ (by omega) (fun h=>absurd h (by omega))) (.string (bs X.data)) (.slice p1.a X.cache.length p1.c) (.int .i64 X.fuse) (.bool X.off) (.slice q1.a X.bad.length q1.c);have sb:=Am hb (g:=B0+1+1) (by omega) (.string (bs X.data)) (.slice p1.a X.cache.length p1.c) (.int .i64 X.fuse) (.bool X.off) (.slice q1.a X.bad.length q1.c);have sk:(((((U.setCell ⟨B0+1+1,0,none⟩ (.string (bs X.data))).setCell ⟨B0+1+1,1,none⟩ (.slice p1.a X.cache.length p1.c)).setCell ⟨B0+1+1,2,none⟩ (.int .i64 X.fuse)).setCell ⟨B0+1+1,3,none⟩ (.bool X.off)).setCell ⟨B0+1+1,4,none⟩ (.slice q1.a X.bad.length q1.c)).heap[Dd]? =U.heap[Dd]? :=by
  have hg:Dd≠B0+1+1:=by omega
  rw[Below.heap_setCell _ _ _ _ hg,Below.heap_setCell _ _ _ _ hg,Below.heap_setCell _ _ _ _ hg,Below.heap_setCell _ _ _ _ hg,Below.heap_setCell _ _ _ _ hg]
 subst e;generalize (((((U.setCell ⟨B0+1+1,0,none⟩ (.string (bs X.data))).setCell ⟨B0+1+1,1,none⟩ (.slice p1.a X.cache.length p1.c)).setCell ⟨B0+1+1,2,none⟩ (.int .i64 X.fuse)).setCell ⟨B0+1+1,3,none⟩ (.bool X.off)).setCell ⟨B0+1+1,4,none⟩ (.slice q1.a X.bad.length q1.c))=T at*;have hK2:T.drew.heap[Dd]? =some (.deferred (some [])):=sk.trans hK;refine⟨hK2,s0.drew.at_ (World.putObj_heap_other (by omega)),(sD.below (Below.refl _ T).drew).kept (grownBy_putObj' _ _ _) (fun r e=>by cases e;exact⟨_,hK2,rfl⟩),?_⟩;exact sb.drew.trans (KeepB.putObj (bs:=[]) _ (by omega) (fun g hg=>by cases hg)).below
theorem L3 (D:Dk)(L:Pn)(p q p' q':Pl)(w:World)(hD:IsDk w D p q)(hL:IsPn w L p' q')(hlen:L.targets.length=L.data.length)(hmany:L.targets.length<=1000000):
 Calls Tryz.prog 156 #[dval D p q,pval L p' q'] w fun e w'=>RetDkN w.heap.size D p q (Pn.lay D L) e w'/\Below w.heap.size w w':=by
 have n1:1<=6:=by omega
 have hLW:=fun(W:World)(hb:Below w.heap.size w W)=>(hL.below hb:IsPn W L p' q')
 have hDW:=fun(W:World)(hb:Below w.heap.size w W)=>(hD.below hb:IsDk W D p q)
 have HDo:=hid (fun g (hg:w.heap.size<=g)=>hD.apart hg);have Hlen:=hid hlen;clear hD hL hlen;obtain⟨A1,a1⟩:=p;obtain⟨A2,a2⟩:=q;obtain⟨B1,b1⟩:=p';obtain⟨B2,b2⟩:=q';refine(callsIn_wide (n:=6)).1 (callsIn_of_wp_marks Tryz.func156 rfl trivial (wpIn_wide.2 ?_) rfl);simp only[Tryz.ntmps156,Nat.reduceAdd,Nat.reduceSub,Yn];go_wp2_with fail
 go_step3
 go_wp2_with fail
 go_step3
 go_wp2_with (go_at_call 174;refine(callsIn_wide.1 (GQ 5 L ⟨B1,b1⟩ ⟨B2,b2⟩ _)).mono ?_;rintro e w3 ⟨rfl,rfl⟩)
 have hB:=Below.refl w.heap.size w;have x:=Blk.new w 25 #[.string (bs D.data),.slice A1 D.cache.length a1,.int .i64 D.fuse,.bool D.off,.slice A2 D.bad.length a2];have hB_1:=Ya hB x;have hB_2:=hB_1.alloc hB_1.size (.cells #[.slice B1 L.targets.length b1,.slice B2 L.data.length b2] 63);have x_3:=Yc x hB_2;have r0:=Yd hB_2 25 #[.string (bs []),.slice none 0 0,.int .i64 0,.bool false,.slice none 0 0];simp only[Ys]at r0;have hB_4:=Ya hB_2 r0;have x_5:=Yc x_3 hB_4;have r1:=Yd hB_4 36 #[.int .i64 0];simp only[Ys]at r1;have hB_6:=Ya hB_4 r1;have x_7:=Yc x_5 hB_6;have r0_8:=Yc r0 hB_6;have bp:=Yd hB_6 63 #[.slice B1 L.targets.length b1,.slice B2 L.data.length b2];simp only[Ys]at bp;have bpk:=blk2 bp;have hB_9:=Ya hB_6 bp;have x_10:=Yc x_7 hB_9;have xk_10:=blk5 x_10;have r0_11:=Yc r0_8 hB_9;have r0k_11:=blk5 r0_11;have r1_12:=Yc r1 hB_9;have r1k_12:=blk1 r1_12;generalize (((((w.alloc (.cells #[.string (bs D.data),.slice A1 D.cache.length a1,.int .i64 D.fuse,.bool D.off,.slice A2 D.bad.length a2] 25)).alloc (.cells #[.slice B1 L.targets.length b1,.slice B2 L.data.length b2] 63)).alloc (.cells #[.string (bs []),.slice none 0 0,.int .i64 0,.bool false,.slice none 0 0] 25)).alloc (.cells #[.int .i64 0] 36)).alloc (.cells #[.slice B1 L.targets.length b1,.slice B2 L.data.length b2] 63))=V at hB_9 x_10 xk_10 r0_11 r0k_11 r1_12 r1k_12 bp bpk ⊢;clear hB_1 hB_2 x_3 hB_4 x_5 hB_6 x_7 r0_8 hB x r0 r1;have hB:=hB_9;have x:=x_10;have r0:=r0_11;have r1:=r1_12;clear hB_9 x_10 xk_10 r0_11 r0k_11 r1_12 r1k_12;have vl:w.heap.size+1+1+1+1<V.heap.size:=bp.lt;have hbs:∀g∈[w.heap.size+1+1+1+1],g<V.heap.size/\w.heap.size+1+1+1<g:=fun g hg=>by
  simp only[List.mem_cons,List.not_mem_nil,or_false]at hg;omega
 have Hsec:=hid (fun(y:Fin L.secs.length)=>show(-9223372036854775808<=L.secs[y.val].1/\L.secs[y.val].1<=9223372036854775807)/\L.secs[y.val].2.length<=9223372036854775807 by
  obtain⟨m1,m2,e⟩:=BJ L y.val y.isLt;have hP:=hLW V hB;rw[e];exact⟨hP.ats _ (List.getElem_mem m1),hP.strs _ (List.getElem_mem m2)⟩)
 refine(wpIn_wide (n:=6)).1 ?_;refine Er rfl n1 (gf:=189) (lb:=#[.pointer (some ⟨w.heap.size+1+1+1+1,0,none⟩)]) rfl trivial (enters_of Tryz.func189 (by kernel_rfl) rfl)
  (GR 5 (by omega) L ⟨B1,b1⟩ ⟨B2,b2⟩ Hlen.out hmany w.heap.size _ V hB.size (fun W hb=>hLW W (hB.trans hb)) bp)
  KeepB.trans (fun W l o o' q1 q2 q3 q4=>KeepB.putObj o' (by omega) (fun g hg=>by have:=hbs g hg;omega)) (Below.refl _ _) (fun _=>rfl)
  (fun pre W=>LayBox W w.heap.size 25 36 D ⟨A1,a1⟩ ⟨A2,a2⟩ (Dk.layIn (picked L.secs pre) D)/\Hid ((Dk.layIn (picked L.secs pre) D).2=0)/\Below w.heap.size w W/\V.heap.size<=W.heap.size)
  (fun c pre W=>c=.exit 0/\LayBox W w.heap.size 25 36 D ⟨A1,a1⟩ ⟨A2,a2⟩ (Dk.layIn (picked L.secs pre) D)/\Hid ((Dk.layIn (picked L.secs pre) D).2≠0)/\Below w.heap.size w W)
  ?hI ?hIx ?h0
  (fun y a' W=>a'={tmps:=#[dval D ⟨A1,a1⟩ ⟨A2,a2⟩,pval L ⟨B1,b1⟩ ⟨B2,b2⟩,.pointer (some ⟨w.heap.size,0,none⟩),.pointer (some ⟨w.heap.size+1,0,none⟩),.pointer (some ⟨w.heap.size+1+1,0,none⟩),.int .i64 0,.pointer (some ⟨w.heap.size+1+1+1,0,none⟩),.int .i64 L.secs[y.val].1,.string (bs L.secs[y.val].2),
   .agg #[.slice B1 L.targets.length b1,.slice B2 L.data.length b2],.func (.func 189) #[] #[.pointer (some ⟨w.heap.size+1+1+1+1,0,none⟩)],.int .i64 L.secs[y.val].1,.string (bs L.secs[y.val].2),undef,undef,undef,undef,undef,undef,undef,undef,undef,undef,undef],defers:=[]})
  (fun _ _ _ _ _ _ hs _ _=>hs) ?assign ?body ?done ?stop
 case hI=>
  rintro pre X Y row ⟨h1,h2,h3,h4⟩ hy hr;exact⟨FR _ _ _ _ _ _ _ _ () X Y row h1 hy hr,h2,ownFrom_below (β:=Unit) (Nat.le_refl _) hB.size () X Y row h3 hy hr,Nat.le_trans h4 hy.size⟩
 case hIx=>
  rintro c pre X Y row ⟨h0,h1,h2,h3⟩ hy hr;exact⟨h0,FR _ _ _ _ _ _ _ _ () X Y row h1 hy hr,h2,ownFrom_below (β:=Unit) (Nat.le_refl _) hB.size () X Y row h3 hy hr⟩
 case h0=>exact⟨⟨⟨⟨A1,a1⟩,⟨A2,a2⟩,x,hDW _ hB,fun g _ h2=>by rcases Nat.lt_or_ge g w.heap.size with h|h;(exact h2 h);(exact HDo.out g h)⟩,r0,r1⟩,hid rfl,hB,Nat.le_refl _⟩
 case assign=>
  rintro l pre y W K hI hK
  dsimp only[secEnc]
  gi_wp2
  exact hK _ _ (KeepsFrom.refl _ _) (Stays.refl _ _) (KeepB.refl _ _ _) hI rfl
 case body=>
  rintro l pre y a' W ⟨⟨⟨p1,q1,h1,h2,h3⟩,h4,h5⟩,he0,hb,hs⟩ rfl hpl;obtain⟨⟨X,xe⟩,hX⟩:∃X,Dk.layIn (picked L.secs pre) D=X:=⟨_,rfl⟩;obtain⟨⟨E,er⟩,hE⟩:∃X',X.write L.secs[y.val].1 L.secs[y.val].2=X':=⟨_,rfl⟩;have Hn:=hid (show Dk.layIn (picked L.secs (pre++[y])) D=(E,er) by rw[BB,Dk.layIn_snoc _ _ _ he0.out,hX];exact hE);rw[hX]at h1 h2 h3 h5;have hw:=Fl X p1 q1 W h2 L.secs[y.val].1 (Hsec.out y).1 L.secs[y.val].2 (Hsec.out y).2;rw[hE]at hw;simp only at h1 h3 h5 hw;clear hX hE he0 h2;have Hsz:=hid hs;have Hb:=hid hb;have HI:=hid h4;generalize L.secs[y.val].1=k at*;generalize L.secs[y.val].2=s at*;have z1:=blk5 h1;have H3:=hid h3;clear h3 h4 hs hb;by_cases he:er=0
  · subst he
    gi_wp2_with fail
    refine⟨trivial,(CallsIn.inRound l (callsIn_wide.2 hw)).mono ?_⟩;rintro e W2 ⟨⟨p2,q2,rfl,i2,o2⟩,hb2⟩;have y1:=h1.below hb2 h1.lt;have y5:=h5.below hb2 h5.lt;have u1:=blk5 y1;have u5:=blk1 y5;have v1:=y1.fz;have v5:=y5.fz
    gi_wp2
    obtain⟨l1,l2,l3,l4,l5,l6⟩:=FU Hsz.out vl Hb.out hb2 y1 y5 HI.out H3.out i2 o2 rfl;exact⟨l4,⟨l5,l6⟩,by rw[Hn.out];exact l1,hid (by rw[Hn.out]),l2,l3⟩
  · have n2:(er !=0)=true:=by simpa using he
    have He:=hid he;clear he
    gi_wp2_with fail
    refine⟨trivial,(CallsIn.inRound l (callsIn_wide.2 hw)).mono ?_⟩;rintro e W2 ⟨⟨p2,q2,rfl,i2,o2⟩,hb2⟩;have y1:=h1.below hb2 h1.lt;have y5:=h5.below hb2 h5.lt;have u1:=blk5 y1;have u5:=blk1 y5;have v1:=y1.fz;have v5:=y5.fz
    gi_wp2
    obtain⟨l1,l2,l3,l4,l5,l6⟩:=FU Hsz.out vl Hb.out hb2 y1 y5 HI.out H3.out i2 o2 rfl;exact⟨l4,rfl,by rw[Hn.out];exact l1,hid (by rw[Hn.out];exact He.out),l2⟩
 case done=>
  rintro Dd ys U hDd hS ⟨⟨⟨p1,q1,h1,h2,h3⟩,h4,h5⟩,he0,hb,hs⟩ hK;rw[hS]at h1 h2 h3 h5 he0;obtain⟨X,hX⟩:∃X,Dk.layIn L.secs D=X:=⟨_,rfl⟩;rw[hX]at h1 h2 h3 h5 he0;obtain⟨X,xe⟩:=X;have Hl:=hid (show Pn.lay D L=(X,xe)from hX);clear hX hS;simp only at h1 h2 h3 h5;have z1:=blk5 h1;have z4:=blk5 h4;have z5:=blk1 h5;have v4:=h4.fz;go_wp2_with fail
  go_region
  go_wp2_with fail
  obtain⟨m1,m2,m3,m4⟩:=FT hb h4 h3 h2 (Dd:=Dd) (by omega) hK rfl;have d0:=blk5 m2;refine⟨by simp,.inl ⟨_,_,rfl,run_takeDeferred m1,?_⟩⟩;refine⟨.tuple #[dval X p1 q1,.int .i64 xe],by simp[results,Tryz.results156,go_sem,d0],⟨p1,q1,by rw[Hl.out],by rw[Hl.out];exact m3,?_⟩,m4⟩;rw[Hl.out];exact fun g g1 g2=>h3 g (by omega) (fun _=>g2)
 case stop=>
  rintro Dd c pre U hDd ⟨m,hm,hpre⟩ ⟨rfl,⟨⟨p1,q1,h1,h2,h3⟩,h4,h5⟩,he0,hb⟩ hK;obtain⟨X,hX⟩:∃X,Dk.layIn (picked L.secs pre) D=X:=⟨_,rfl⟩;rw[hX]at h1 h2 h3 h5 he0;obtain⟨X,xe⟩:=X;have Hl:=hid (show Pn.lay D L=(X,xe) by
   have e:L.secs=picked L.secs pre++L.secs.drop (m+1):=by rw[hpre,List.take_append_drop]
   show Dk.layIn L.secs D=_;rw[e,Dk.layIn_stop _ _ _ (by rw[hX];exact he0.out),hX])
  clear hX hpre;simp only at h1 h2 h3 h5;have z1:=blk5 h1;have z4:=blk5 h4;have z5:=blk1 h5;have v4:=h4.fz;refine wpIn_wide.2 ?_;go_wp2_with fail
  go_region
  go_wp2_with fail
  obtain⟨m1,m2,m3,m4⟩:=FT hb h4 h3 h2 (Dd:=Dd) (by omega) hK rfl;have d0:=blk5 m2;refine⟨by simp,.inl ⟨_,_,rfl,run_takeDeferred m1,?_⟩⟩;refine⟨.tuple #[dval X p1 q1,.int .i64 xe],by simp[results,Tryz.results156,go_sem,d0],⟨p1,q1,by rw[Hl.out],by rw[Hl.out];exact m3,?_⟩,m4⟩;rw[Hl.out];exact fun g g1 g2=>h3 g (by omega) (fun _=>g2)
end
end Go.Proofs.YtmiilfnchfdfcaaGreatDoor
