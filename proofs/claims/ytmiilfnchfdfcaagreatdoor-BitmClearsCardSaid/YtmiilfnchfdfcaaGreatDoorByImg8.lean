/- By: Bitm10, Law17p, Opens4, Law01a, Img11, Law17a, Good15, Good17, Img8. -/
import Derived.Test.YtmiilfnchfdfcaaGreatDoorByBitm9
import Derived.Test.YtmiilfnchfdfcaaGreatDoorByBitm5
set_option maxRecDepth 100000
set_option maxHeartbeats 40000000
set_option linter.unusedVariables false
namespace Go.Proofs.YtmiilfnchfdfcaaGreatDoor
section
open Go.RowKit Go.Shelf
attribute [local go_sem] Ad Ag Ah Ac Aj Ai
theorem EU (x:Im)(p q r:Pl)(w:World)(hI:IsIm w x p q r)(ok:x.Ok):
 Calls Tryz.prog 16 #[imval x p q r] w fun e w'=>RetIm w.heap.size x p q r x.bmLoad e w'/\Below w.heap.size w w':=by
 by_cases hin:x.br=false/\(Pn.maps x.d Pn.none).2=0
 · exact ID x p q r w hI ok hin.1 hin.2
 have hmp:=fun(W:World)(hb:Below w.heap.size w W)=>CA x.d Pn.none p q ⟨none,0⟩ ⟨none,0⟩ W (hI.d.below hb) (AQ _) ok.d Pn.none_fit
 have Hap:=hid (fun g (hg:w.heap.size<=g)=>hI.apart hg);have HC:=hid (show x.br=true->x.bmLoad=(x,24)from fun h=>if_pos h);have HC2:=hid (show x.br=false->(Pn.maps x.d Pn.none).2≠0->x.bmLoad=(x,(Pn.maps x.d Pn.none).2)from fun h h2=>(if_neg (by rw[h];simp)).trans (if_pos h2));generalize Pn.maps x.d Pn.none=MM at*;obtain⟨l,em⟩:=MM;simp only at hmp hin HC2;obtain⟨hd,hm⟩:=hI;clear ok;obtain⟨D,g,h,⟨seq,pos⟩,maps,br⟩:=x;simp only at hd hm hmp Hap HC HC2 hin;obtain⟨A1,a1⟩:=p;obtain⟨A2,a2⟩:=q;obtain⟨A3,a3⟩:=r;have or0:=Hap.out (w.heap.size+1) (by omega);have oe0:=Hap.out (w.heap.size+1+1) (by omega);cases br with
 |true=>
  have Hr:=hid (HC.out rfl);clear HC HC2 hmp hin or0 oe0;have hB:=Below.refl w.heap.size w;have x:=Blk.new w 33 #[.string (bs D.data),.slice A1 D.cache.length a1,.int .i64 D.fuse,.bool D.off,.slice A2 D.bad.length a2,.int .i64 g,.int .i64 h,.int .u64 seq,.int .i64 pos,.slice A3 maps.length a3,.bool true];have hB_1:=Ya hB x;have hd_2:=hd.below (Yb hB_1);have hm_3:=hm.below (Yb hB_1);have r:=Yd hB_1 33 #[.string (bs D.data),.slice A1 D.cache.length a1,.int .i64 D.fuse,.bool D.off,.slice A2 D.bad.length a2,.int .i64 g,.int .i64 h,.int .u64 seq,.int .i64 pos,.slice A3 maps.length a3,.bool true];simp only[Ys]at r;have hB_4:=Ya hB_1 r;have hd_5:=hd_2.below (Yb hB_4);have hm_6:=hm_3.below (Yb hB_4);have x_7:=Yc x hB_4;have er:=Yd hB_4 36 #[.int .i64 24];simp only[Ys]at er;have ek:=blk1 er;have hB_8:=Ya hB_4 er;have hd_9:=hd_5.below (Yb hB_8);have hm_10:=hm_6.below (Yb hB_8);have x_11:=Yc x_7 hB_8;have xk_11:=Aa x_11;have r_12:=Yc r hB_8;have rk_12:=Aa r_12;have yy:=rk_12;have ee:=ek;have bw:=hB_8;have dw:=hd_9;have mw:=hm_10;go_enter Tryz.func16,Tryz.ntmps16;go_wp2_with fail
  refine bodyPost_ret (v:=.tuple #[imval ⟨D,g,h,⟨seq,pos⟩,maps,true⟩ ⟨A1,a1⟩ ⟨A2,a2⟩ ⟨A3,a3⟩,.int .i64 24]) (by simp[results,Tryz.results16,go_sem,yy,ee]) rfl ?_;rw[Hr.out];exact⟨⟨⟨A1,a1⟩,⟨A2,a2⟩,⟨A3,a3⟩,rfl,⟨dw,mw⟩,fun _ _ h=>h⟩,bw⟩
 |false=>
  have he:em≠0:=fun e=>hin ⟨rfl,e⟩
  have n1:(em !=0)=true:=bne_iff_ne.2 he;have Hr:=hid (HC2.out rfl he);clear HC HC2 hin he;have hB:=Below.refl w.heap.size w;have x:=Blk.new w 33 #[.string (bs D.data),.slice A1 D.cache.length a1,.int .i64 D.fuse,.bool D.off,.slice A2 D.bad.length a2,.int .i64 g,.int .i64 h,.int .u64 seq,.int .i64 pos,.slice A3 maps.length a3,.bool false];have hB_1:=Ya hB x;have hd_2:=hd.below (Yb hB_1);have hm_3:=hm.below (Yb hB_1);have r:=Yd hB_1 33 #[.string (bs []),.slice none 0 0,.int .i64 0,.bool false,.slice none 0 0,.int .i64 0,.int .i64 0,.int .u64 0,.int .i64 0,.slice none 0 0,.bool false];simp only[Ys]at r;have hB_4:=Ya hB_1 r;have hd_5:=hd_2.below (Yb hB_4);have hm_6:=hm_3.below (Yb hB_4);have x_7:=Yc x hB_4;have er:=Yd hB_4 36 #[.int .i64 0];simp only[Ys]at er;have ek:=blk1 er;have hB_8:=Ya hB_4 er;have hd_9:=hd_5.below (Yb hB_8);have hm_10:=hm_6.below (Yb hB_8);have x_11:=Yc x_7 hB_8;have xk_11:=Aa x_11;have r_12:=Yc r hB_8;have rk_12:=Aa r_12;go_enter Tryz.func16,Tryz.ntmps16;go_wp2_with fail
  go_at_call 28;refine((hmp _ hB_8)).mono ?_;rintro e w1 ⟨⟨v,rfl,hv⟩,hb1⟩;replace hB:=bt hB_8 hb1;replace hd:=hd_9.below hb1;replace hm:=hm_10.below hb1;replace x:=x_11.below hb1 x_11.lt;replace r:=r_12.below hb1 r_12.lt;replace er:=er.below hb1 er.lt;replace ek:=blk1 er;clear hB_1 hd_2 hm_3 hB_4 hd_5 hm_6 x_7 hB_8 hd_9 hm_10 xk_11 x_11 rk_12 r_12;have hw1:=er.lt;clear hv;have eb:=Blk.new w1 36 #[.int .i64 em];have ebk:=blk1 eb;have hB_13:=Ya hB eb;have hd_14:=hd.below (Yb hB_13);have hm_15:=hm.below (Yb hB_13);have x_16:=Yc x hB_13;have xk_16:=Aa x_16;have r_17:=Yc r hB_13;have rk_17:=Aa r_17;have er_18:=Yc er hB_13;have ek_18:=blk1 er_18;go_wp2_with fail
  generalize (w1.alloc (.cells #[.int .i64 em] 36))=T at hB_13 hd_14 hm_15 x_16 xk_16 r_17 rk_17 er_18 ek_18 eb ebk ⊢;clear hB hd hm x r er ek;have hB:=hB_13;have hd:=hd_14;have hm:=hm_15;have x:=x_16;have r:=r_17;have er:=er_18;have ek:=ek_18;clear hB_13 hd_14 hm_15 x_16 xk_16 r_17 rk_17 er_18 ek_18;have KX2:=fun(T9:World)(hT:Blk T9 w.heap.size 33 #[.string (bs D.data),.slice A1 D.cache.length a1,.int .i64 D.fuse,.bool D.off,.slice A2 D.bad.length a2,.int .i64 g,.int .i64 h,.int .u64 seq,.int .i64 pos,.slice A3 maps.length a3,.bool false]/\Blk T9 w1.heap.size 36 #[.int .i64 em])=>And.intro (Aa hT.1) (blk1 hT.2)
  have s0:Blk T.drew w.heap.size _ _/\Blk T.drew w1.heap.size _ _:=⟨x,eb⟩;have r0:Blk T.drew (w.heap.size+1) _ _:=r;have er0:Blk T.drew (w.heap.size+1+1) _ _:=er;have B0':=hB.trans ((Below.refl T.heap.size T).drew.mono (by have:=hB.size;omega));have d0:=hd.below (Below.refl T.heap.size T).drew;have m0:=hm.below (Below.refl T.heap.size T).drew;refine AT (S:=fun T9=>Blk T9 w.heap.size 33 #[.string (bs D.data),.slice A1 D.cache.length a1,.int .i64 D.fuse,.bool D.off,.slice A2 D.bad.length a2,.int .i64 g,.int .i64 h,.int .u64 seq,.int .i64 pos,.slice A3 maps.length a3,.bool false]/\Blk T9 w1.heap.size 36 #[.int .i64 em]) (late:=fun _=>false) (by kernel_rfl) ?_;generalize T.drew=U0 at s0 r0 er0 B0' d0 m0 ⊢;simp only[Nat.reduceAdd,Yn];refine Yu 0 (some 24) (.agg #[.string (bs D.data),.slice A1 D.cache.length a1,.int .i64 D.fuse,.bool D.off,.slice A2 D.bad.length a2,.int .i64 g,.int .i64 h,.int .u64 seq,.int .i64 pos,.slice A3 maps.length a3,.bool false]) rfl (fun T9 hT=>by have h:=KX2 T9 hT;go_simp) s0 ?_;simp only[Yf];refine Yu 1 (some 25) (.int .i64 em) rfl (fun T9 hT=>by have h:=KX2 T9 hT;go_simp) s0 ?_;simp only[Yf];refine Yo 2 (fun K' hK9=>?_);have Yy:=Ba r0 (.string (bs D.data)) (.slice A1 D.cache.length a1) (.int .i64 D.fuse) (.bool D.off) (.slice A2 D.bad.length a2) (.int .i64 g) (.int .i64 h) (.int .u64 seq) (.int .i64 pos) (.slice A3 maps.length a3) (.bool false);refine Yq Yy (by have H:=Yk11 r0 Yy;go_simp) ?_;show K' (Act.put _ none _) _;have r9:=Yy;have x9:=AV s0.1 (g:=w.heap.size+1) (by omega) (.string (bs D.data)) (.slice A1 D.cache.length a1) (.int .i64 D.fuse) (.bool D.off) (.slice A2 D.bad.length a2) (.int .i64 g) (.int .i64 h) (.int .u64 seq) (.int .i64 pos) (.slice A3 maps.length a3) (.bool false);have e9:=AV s0.2 (g:=w.heap.size+1) (by omega) (.string (bs D.data)) (.slice A1 D.cache.length a1) (.int .i64 D.fuse) (.bool D.off) (.slice A2 D.bad.length a2) (.int .i64 g) (.int .i64 h) (.int .u64 seq) (.int .i64 pos) (.slice A3 maps.length a3) (.bool false);have er9:=AV er0 (g:=w.heap.size+1) (by omega) (.string (bs D.data)) (.slice A1 D.cache.length a1) (.int .i64 D.fuse) (.bool D.off) (.slice A2 D.bad.length a2) (.int .i64 g) (.int .i64 h) (.int .u64 seq) (.int .i64 pos) (.slice A3 maps.length a3) (.bool false);have B9:=Ym11 B0' Yy;have d9:=d0.off11 (g:=w.heap.size+1) or0.1 (.string (bs D.data)) (.slice A1 D.cache.length a1) (.int .i64 D.fuse) (.bool D.off) (.slice A2 D.bad.length a2) (.int .i64 g) (.int .i64 h) (.int .u64 seq) (.int .i64 pos) (.slice A3 maps.length a3) (.bool false);have m9:=m0.off11 (g:=w.heap.size+1) or0.2 (.string (bs D.data)) (.slice A1 D.cache.length a1) (.int .i64 D.fuse) (.bool D.off) (.slice A2 D.bad.length a2) (.int .i64 g) (.int .i64 h) (.int .u64 seq) (.int .i64 pos) (.slice A3 maps.length a3) (.bool false);refine hK9 _ _ (fun _ _=>⟨x9,e9⟩) ?_
  try simp only[Yf]
  generalize (((((((((((U0.setCell ⟨w.heap.size+1,0,none⟩ (.string (bs D.data))).setCell ⟨w.heap.size+1,1,none⟩ (.slice A1 D.cache.length a1)).setCell ⟨w.heap.size+1,2,none⟩ (.int .i64 D.fuse)).setCell ⟨w.heap.size+1,3,none⟩ (.bool D.off)).setCell ⟨w.heap.size+1,4,none⟩ (.slice A2 D.bad.length a2)).setCell ⟨w.heap.size+1,5,none⟩ (.int .i64 g)).setCell ⟨w.heap.size+1,6,none⟩ (.int .i64 h)).setCell ⟨w.heap.size+1,7,none⟩ (.int .u64 seq)).setCell ⟨w.heap.size+1,8,none⟩ (.int .i64 pos)).setCell ⟨w.heap.size+1,9,none⟩ (.slice A3 maps.length a3)).setCell ⟨w.heap.size+1,10,none⟩ (.bool false))=U9 at r9 x9 e9 er9 B9 d9 m9 ⊢;have er9k:=blk1 er9;have er9f:=er9.fz;refine Yo 3 (fun K' hK9=>?_);refine Aw (w':=U9.setCell ⟨w.heap.size+1+1,0,none⟩ (.int .i64 em)) (by go_simp) ?_;show K' (Act.put _ none _) _;have x8:=x9.other (a:=⟨w.heap.size+1+1,0,none⟩) (by show¬w.heap.size=w.heap.size+1+1;omega) (.int .i64 em);have e8:=e9.other (a:=⟨w.heap.size+1+1,0,none⟩) (by show¬w1.heap.size=w.heap.size+1+1;omega) (.int .i64 em);have r8:=r9.other (a:=⟨w.heap.size+1+1,0,none⟩) (by show¬w.heap.size+1=w.heap.size+1+1;omega) (.int .i64 em);have er8:=er9.set 0 (.int .i64 em);simp only[List.setIfInBounds_toArray,List.set_cons_zero]at er8;have B8:=B9.setCell (p:=⟨w.heap.size+1+1,0,none⟩) (by show w.heap.size<=w.heap.size+1+1;omega) (.int .i64 em);have d8:=d9.o1 B8 oe0.1;have m8:=m9.o1 B8 oe0.2;refine hK9 _ _ (fun _ _=>⟨x8,e8⟩) ?_
  try simp only[Yf]
  refine Ar (by kernel_rfl) ?_ _;generalize U9.setCell ⟨w.heap.size+1+1,0,none⟩ (.int .i64 em)=U8 at x8 e8 r8 er8 B8 d8 m8 ⊢;go_wp2_with fail
  have q0:=Aa r8;have q1:=blk1 er8;refine bodyPost_ret (v:=.tuple #[imval ⟨D,g,h,⟨seq,pos⟩,maps,false⟩ ⟨A1,a1⟩ ⟨A2,a2⟩ ⟨A3,a3⟩,.int .i64 em]) (by simp[results,Tryz.results16,go_sem,q0,q1]) rfl ?_;rw[Hr.out];exact⟨⟨⟨A1,a1⟩,⟨A2,a2⟩,⟨A3,a3⟩,rfl,⟨d8,m8⟩,fun _ _ h=>h⟩,B8⟩
end
section
namespace Im
def okC (x:Im):Bool:=x.d.fit&&(decide (0<x.g)&&(decide (x.g<=64)&&(decide (8<=x.h)&&(decide (x.h<=256)&&(decide (x.j.seq<18446744073709551615)&&(decide (-9223372036854775808<=x.j.pos)&&(decide (x.j.pos<=9223372036854775807)&&(decide (x.maps.length<=2)&&x.maps.all fun m=>decide (m.bits.length=64)))))))))
theorem okC_ok {x:Im}(h:x.okC=true):x.Ok:=by
 simp only[okC,Bool.and_eq_true,decide_eq_true_eq,List.all_eq_true]at h;obtain⟨h1,h2,h3,h4,h5,h6,h7,h8,h9,h10⟩:=h;exact⟨h1,⟨h2,h3⟩,⟨h4,h5⟩,h6,⟨h7,h8⟩,h9,h10⟩
end Im
theorem LJ:bm1C.okC=true/\bm2C.okC=true/\bm3C.okC=true/\bm4C.okC=true:=by decide+kernel
theorem Cu {X:Im×Int}{y:Im}{e:Int}(h:y=X.1)(h2:X.2=e):X=(y,e):=by subst h h2;rfl
theorem ev17:smI.bmAdd [109]=(bm1C,0)/\bm1C.write 3 0 [120]=(bm2C,0)/\bm2C.bmSave=(bm3C,0)/\bm3C.bmLoad=(bm4C,0)/\bm4C.bmLoad=(bm5C,0):=by
 obtain⟨h1,h2,h3,h4,h5,_⟩:=CS;rw[Im.addC_eq,Im.writeC_eq,Im.saveC_eq,Im.loadC_eq,Im.loadC_eq];exact⟨Cu bm1C.eq_def h1,Cu bm2C.eq_def h2,Cu bm3C.eq_def h3,Cu bm4C.eq_def h4,Cu bm5C.eq_def h5⟩
end
section
open Go.RowKit Go.Shelf Go.WideShapes Go.ChangeShapes Go.Deep Go.Joins
section
variable {H:Type} {enc:TypeId×Value->H} {P:Program} {w:World} {base:Nat} {spare:Nat->Bool} {held:Bool}
theorem LK {t e:TypeId}{f0 f1 f2:Field}{l:List Value}{x:DataW H×List MemPlace}{fuel:Nat}
 (hs:P.underlying t=some (.struct #[f0,f1,f2])) (ho0:f0.offset=0/\P.cellsOf f0.type=1) (ho1:f1.offset=1/\P.cellsOf f1.type=1) (ho2:f2.offset=2/\P.cellsOf f2.type=64) (hC:P.cellsOf t=66)
 (u0:P.underlying f0.type=some .string) (u1:P.underlying f1.type=some .bool) (u2:P.underlying f2.type=some (.array 64 e)) (ue:P.underlying e=some .bool) (ce:P.cellsOf e=1)
 (hsz:l.length=66) (hf:DataW.trod enc P w base spare held fuel t l=some x):∃m:Dm,l=dmCells m/\m.name.length<=maxLen/\m.bits.length=64:=by
 match l,hsz with
 |x0::x1::r,hr=>
  have hr64:r.length=64:=by simpa using hr
  clear hr;obtain⟨xs,n,_,hx,_,hlen,hg⟩:=DataW.trod_struct hs hf
  match xs,hlen with
  |[y0,y1,y2],_=>
   have t0:DataW.trod enc P w base spare held n f0.type [x0]=some y0:=by simpa[ho0.1,ho0.2]using hg 0 f0 rfl
   have t1:DataW.trod enc P w base spare held n f1.type [x1]=some y1:=by simpa[ho1.1,ho1.2]using hg 1 f1 rfl
   have t2:DataW.trod enc P w base spare held n f2.type r=some y2:=by
    have:=hg 2 f2 rfl;simp only[ho2.1,ho2.2]at this;rw[show((x0::x1::r).drop 2).take 64=r by rw[show(x0::x1::r).drop 2=r from rfl,List.take_of_length_le (by omega)]]at this;simpa using this
   obtain⟨s,hs0,_,hws⟩:=DataW.trod_string u0 t0;obtain⟨b,hb,_⟩:=DataW.trod_bool u1 t1;injection hs0 with hs0
   injection hb with hb
   subst hs0 hb;obtain⟨zs,m,_,_,_,hzl,hel⟩:=DataW.trod_array u2 t2;have hbits:∀i,i<64->∃b:Bool,r[i]? =some (.bool b):=fun i hi=>by
    have:=hel i hi;rw[ce,Nat.mul_one]at this;obtain⟨z,hz⟩:∃z,zs[i]? =some z:=⟨_,List.getElem?_eq_getElem (by omega)⟩;rw[hz]at this;have e1:(r.drop i).take 1=[r[i]'(by omega)]:=by
     rw[List.drop_eq_getElem_cons (by omega)];rfl
    rw[e1]at this;obtain⟨b,hb,_⟩:=DataW.trod_bool ue this;injection hb with hb
    exact⟨b,by rw[List.getElem?_eq_getElem (by omega),hb]⟩
   obtain⟨q,rfl⟩:∃q:List Bool,r=q.map .bool:=by
    clear hel hx hg t2 hsz hf;have H:∀(n:Nat)(r:List Value),r.length=n->(∀i,i<n->∃b:Bool,r[i]? =some (.bool b))->∃q:List Bool,r=q.map .bool:=fun n=>by
     induction n with
     |zero=>intro r hr _;exact⟨[],by rw[List.length_eq_zero_iff.1 hr];rfl⟩
     |succ n ih=>
      intro r hr h
      match r,hr with
      |x::r,hr=>
       obtain⟨b,hb⟩:=h 0 (by omega);obtain⟨q,rfl⟩:=ih r (by simpa using hr) fun i hi=>h (i+1) (by omega)
       refine⟨b::q,?_⟩;have:x=.bool b:=by simpa using hb
       rw[this];rfl
    exact H 64 r hr64 hbits
   obtain⟨l,rfl⟩:=CK s;exact⟨⟨l,b,q⟩,rfl,by rw[Ac]at hws;exact hws,by simpa using hr64⟩
theorem JV:∀(l:List Dm),(∀m∈l,m.bits.length=64)->∀(j:Nat)(u:Value),(dmRows l)[j]? =some u->∃i,∃hi:i<l.length,∃k,k<66/\j=i*66+k/\(dmCells l[i])[k]? =some u:=by
 intro l
 induction l with
 |nil=>intro _ j u h;simp[dmRows]at h
 |cons x l ih=>
  intro h64 j u h;have hx:=AH (h64 x (by simp));have h:(dmCells x++dmRows l)[j]? =some u:=h;by_cases hj:j<66
  · rw[List.getElem?_append_left (by omega)]at h;exact⟨0,by simp,j,hj,by omega,h⟩
  · rw[List.getElem?_append_right (by omega),hx]at h;obtain⟨i,hi,k,hk,e,hu⟩:=ih (fun m hm=>h64 m (by simp[hm])) (j-66) u h;exact⟨i+1,by simpa using hi,k,hk,by omega,by simpa using hu⟩
theorem LL {t e eb:TypeId}{f0 f1 f2:Field}{fuel:Nat}{v:Value}{x:DataW H×List MemPlace}(ht:P.underlying t=some (.slice e))
 (hs:P.underlying e=some (.struct #[f0,f1,f2])) (ho0:f0.offset=0/\P.cellsOf f0.type=1) (ho1:f1.offset=1/\P.cellsOf f1.type=1) (ho2:f2.offset=2/\P.cellsOf f2.type=64) (hC:P.cellsOf e=66)
 (u0:P.underlying f0.type=some .string) (u1:P.underlying f1.type=some .bool) (u2:P.underlying f2.type=some (.array 64 eb)) (ue:P.underlying eb=some .bool) (ce:P.cellsOf eb=1)
 (h:DataW.trod enc P w base spare held fuel t [v]=some x):∃(l:List Dm)(r:Pl),v=.slice r.a l.length r.c/\IsMs w l r:=by
 rcases open_slice ht h with ⟨h0,_⟩|⟨a,len,cap,m,n,D,Pl,hcs,_,hl,hm,hmm,_,hi⟩
 · injection h0 with h0
   exact⟨[],⟨none,0⟩,h0,D6 w⟩
 · injection hcs with hcs
   have hlm:len<=m:=by rw[hmm];split<;>omega
   obtain⟨l,hl',hR⟩:=CW (α:=Dm) (n:=len) (R:=fun i x=>(∀k u,(dmCells x)[k]? =some u->w.cell? (a.add (i*66+k))=some u)/\x.name.length<=maxLen/\x.bits.length=64) fun i h=>by
    obtain⟨cs',hc,ht'⟩:=hi i (by omega);rw[hC]at hc;obtain⟨_,hcl,hat⟩:=World.cells?_some hc;obtain⟨x,rfl,h1,h2⟩:=LK hs ho0 ho1 ho2 hC u0 u1 u2 ue ce hcl ht';refine⟨x,fun k u hu=>?_,h1,h2⟩;have hk:=(List.getElem?_eq_some_iff.1 hu).1;rw[<-Go.Deep.add_add,hat k (by omega),hu]
   subst hl';have h64:∀x∈l,x.bits.length=64:=fun x hx=>by obtain⟨j,hj,rfl⟩:=List.getElem_of_mem hx;exact(hR j hj).2.2
   refine⟨l,⟨some a,cap⟩,hcs,DI fun j u hu=>?_,(by intro h;cases h),hl,hm,h64,fun x hx=>by obtain⟨j,hj,rfl⟩:=List.getElem_of_mem hx;exact(hR j hj).2.1⟩;obtain⟨i,hi,k,hk,rfl,hu'⟩:=JV l h64 j u hu;exact(hR i hi).1 k u hu'
structure IsIm0 (w:World) (D:Dk) (g h:Int) (j:Jr) (maps:List Dm) (p q r:Pl):Prop where
 d:IsDk0 w D p q
 m:IsMs w maps r
 data:D.data.length<=140737488355328
 bad:D.bad.length<=17592186044416
 g:okInt g
 h:okInt h
 seq:j.seq<18446744073709551616
 pos:okInt j.pos
theorem IsIm0.below {w w':World}{D:Dk}{g h:Int}{j:Jr}{maps:List Dm}{p q r:Pl}(hI:IsIm0 w D g h j maps p q r)(hb:Below w.heap.size w w'):IsIm0 w' D g h j maps p q r:={hI with d:=hI.d.below hb,m:=hI.m.below hb}
abbrev BQ (D:Dk)(g h:Int)(j:Jr)(maps:List Dm)(br:Bool)(p q r:Pl):Value:=
 .agg #[.string (bs D.data),.slice p.a D.cache.length p.c,.int .i64 D.fuse,.bool D.off,.slice q.a D.bad.length q.c,.int .i64 g,.int .i64 h,.int .u64 j.seq,.int .i64 j.pos,.slice r.a maps.length r.c,.bool br]
theorem LM {t tp ti te eb:TypeId}{F0 F1 F2 F3 F4 f0 f1 f2 f3 f4 g0 g1 a0 a1 j0 j1 m0 m1 m2:Field}{v:Value}{d:DataW H}{pp:List MemPlace}{r:Reach}{b0:Nat}
 (hs:P.underlying t=some (.struct #[F0,F1,F2,F3,F4])) (hC:P.cellsOf t=11)
 (o0:F0.offset=0/\P.cellsOf F0.type=5) (o1:F1.offset=5/\P.cellsOf F1.type=2) (o2:F2.offset=7/\P.cellsOf F2.type=2) (o3:F3.offset=9/\P.cellsOf F3.type=1) (o4:F4.offset=10/\P.cellsOf F4.type=1)
 (hd:P.underlying F0.type=some (.struct #[f0,f1,f2,f3,f4])) (hone:oneCellFields P #[f0,f1,f2,f3,f4]=true)
 (u0:P.underlying f0.type=some .string) (u1:P.underlying f1.type=some (.slice tp)) (u2:P.underlying f2.type=some (.int .i64)) (u3:P.underlying f3.type=some .bool) (u4:P.underlying f4.type=some (.slice ti))
 (k1:P.underlying tp=some (.struct #[g0,g1])) (hone':oneCellFields P #[g0,g1]=true) (hC':P.cellsOf tp=2) (g0i:P.underlying g0.type=some (.int .i64)) (g1s:P.underlying g1.type=some .string)
 (k4:P.underlying ti=some (.int .i64)) (hC4:P.cellsOf ti=1) (hB4:P.bytesOf ti=8)
 (hg:P.underlying F1.type=some (.struct #[a0,a1])) (hone2:oneCellFields P #[a0,a1]=true) (a0i:P.underlying a0.type=some (.int .i64)) (a1i:P.underlying a1.type=some (.int .i64))
 (hj:P.underlying F2.type=some (.struct #[j0,j1])) (hone3:oneCellFields P #[j0,j1]=true) (j0i:P.underlying j0.type=some (.int .u64)) (j1i:P.underlying j1.type=some (.int .i64))
 (hm:P.underlying F3.type=some (.slice te)) (he:P.underlying te=some (.struct #[m0,m1,m2])) (q0:m0.offset=0/\P.cellsOf m0.type=1) (q1:m1.offset=1/\P.cellsOf m1.type=1) (q2:m2.offset=2/\P.cellsOf m2.type=64) (hCe:P.cellsOf te=66)
 (v0:P.underlying m0.type=some .string) (v1:P.underlying m1.type=some .bool) (v2:P.underlying m2.type=some (.array 64 eb)) (vb:P.underlying eb=some .bool) (cb:P.cellsOf eb=1)
 (hb:P.underlying F4.type=some .bool)
 (hv:Value.okWide P w r b0 t v) (h:DataW.Trod enc P w base spare held t v d pp) (hw:(d.weights P t).all (·<=reachBytes)=true):
 ∃(D:Dk)(g h:Int)(j:Jr)(maps:List Dm)(br:Bool)(p q r:Pl),v=BQ D g h j maps br p q r/\IsIm0 w D g h j maps p q r:=by
 obtain⟨cs,rfl,hsz⟩:=okWide_struct hs hv;obtain⟨l⟩:=cs
 match l,hsz.trans hC with
 |[x0,x1,x2,x3,x4,x5,x6,x7,x8,x9,x10],_=>
  obtain⟨fuel,hf⟩:=h;obtain⟨xs,n,_,hx,_,hlen,hgt⟩:=DataW.trod_struct hs hf
  match xs,hlen with
  |[y0,y1,y2,y3,y4],_=>
   have t0:DataW.trod enc P w base spare held n F0.type [x0,x1,x2,x3,x4]=some y0:=by simpa[Value.cells,o0.1,o0.2]using hgt 0 F0 rfl
   have t1:DataW.trod enc P w base spare held n F1.type [x5,x6]=some y1:=by simpa[Value.cells,o1.1,o1.2]using hgt 1 F1 rfl
   have t2:DataW.trod enc P w base spare held n F2.type [x7,x8]=some y2:=by simpa[Value.cells,o2.1,o2.2]using hgt 2 F2 rfl
   have t3:DataW.trod enc P w base spare held n F3.type [x9]=some y3:=by simpa[Value.cells,o3.1,o3.2]using hgt 3 F3 rfl
   have t4:DataW.trod enc P w base spare held n F4.type [x10]=some y4:=by simpa[Value.cells,o4.1,o4.2]using hgt 4 F4 rfl
   have hx1:d=.agg [y0.1,y1.1,y2.1,y3.1,y4.1]:=by injection hx
   rw[hx1]at hw;simp only[DataW.weights,hs,List.map_cons,List.map_nil,DataW.weightsEach,List.all_append,Bool.and_eq_true]at hw;have hw0:=hw.1;clear hw hx hgt hf;obtain⟨zs,m,_,hz,_,hlen',hg'⟩:=DataW.trod_struct hd t0;obtain⟨p0,e0⟩:=hone_of hone 0 f0 rfl;obtain⟨p1,e1⟩:=hone_of hone 1 f1 rfl;obtain⟨p2,e2⟩:=hone_of hone 2 f2 rfl;obtain⟨p3,e3⟩:=hone_of hone 3 f3 rfl;obtain⟨p4,e4⟩:=hone_of hone 4 f4 rfl
   match zs,hlen' with
   |[z0,z1,z2,z3,z4],_=>
    have s0:DataW.trod enc P w base spare held m f0.type [x0]=some z0:=by simpa[p0,e0]using hg' 0 f0 rfl
    have s1:DataW.trod enc P w base spare held m f1.type [x1]=some z1:=by simpa[p1,e1]using hg' 1 f1 rfl
    have s2:DataW.trod enc P w base spare held m f2.type [x2]=some z2:=by simpa[p2,e2]using hg' 2 f2 rfl
    have s3:DataW.trod enc P w base spare held m f3.type [x3]=some z3:=by simpa[p3,e3]using hg' 3 f3 rfl
    have s4:DataW.trod enc P w base spare held m f4.type [x4]=some z4:=by simpa[p4,e4]using hg' 4 f4 rfl
    have hz1:y0.1=.agg [z0.1,z1.1,z2.1,z3.1,z4.1]:=by rw[hz];rfl
    rw[hz1]at hw0;simp only[DataW.weights,hd,List.map_cons,List.map_nil,DataW.weightsEach,List.all_append,Bool.and_eq_true]at hw0;obtain⟨s,hs0,hzs,hws⟩:=DataW.trod_string u0 s0;obtain⟨A,c,l,rfl,hc,hn,hl,hml,hxl⟩:=LP (fs:=#[g0,g1]) u1 k1 hone' hC' rfl g0i g1s s1;obtain⟨k,hk,_,hw2⟩:=DataW.trod_int u2 s2;obtain⟨b,hbo,_⟩:=DataW.trod_bool u3 s3;obtain⟨A',c',l',rfl,hc',hn',hl',hm',hx'⟩:=LN u4 k4 hC4 s4;injection hs0 with hs0
    injection hk with hk
    injection hbo with hbo
    subst hs0;subst hk;subst hbo
    have hsd:=hw0.1;rw[hzs]at hsd;simp only[DataW.weights,List.all_cons,List.all_nil,Bool.and_true,decide_eq_true_eq]at hsd;have hbd:=Oj u4 s4 hw0.2.2.2.2.1;rw[hB4]at hbd;obtain⟨sl,rfl⟩:=CK s;rw[Ac]at hws;obtain⟨gs,mg,_,_,_,hleng,hgg⟩:=DataW.trod_struct hg t1;obtain⟨pg0,eg0⟩:=hone_of hone2 0 a0 rfl;obtain⟨pg1,eg1⟩:=hone_of hone2 1 a1 rfl;obtain⟨js,mj,_,_,_,hlenj,hgj⟩:=DataW.trod_struct hj t2;obtain⟨pj0,ej0⟩:=hone_of hone3 0 j0 rfl;obtain⟨pj1,ej1⟩:=hone_of hone3 1 j1 rfl
    match gs,hleng,js,hlenj with
    |[w0,w1],_,[i0,i1],_=>
     have r0:DataW.trod enc P w base spare held mg a0.type [x5]=some w0:=by simpa[pg0,eg0]using hgg 0 a0 rfl
     have r1:DataW.trod enc P w base spare held mg a1.type [x6]=some w1:=by simpa[pg1,eg1]using hgg 1 a1 rfl
     have r2:DataW.trod enc P w base spare held mj j0.type [x7]=some i0:=by simpa[pj0,ej0]using hgj 0 j0 rfl
     have r3:DataW.trod enc P w base spare held mj j1.type [x8]=some i1:=by simpa[pj1,ej1]using hgj 1 j1 rfl
     obtain⟨G,hG,_,wG⟩:=DataW.trod_int a0i r0;obtain⟨N,hN,_,wN⟩:=DataW.trod_int a1i r1;obtain⟨S,hS,_,wS⟩:=DataW.trod_int j0i r2;obtain⟨O,hO,_,wO⟩:=DataW.trod_int j1i r3;obtain⟨B,hB,_⟩:=DataW.trod_bool hb t4;injection hG with hG
     injection hN with hN
     injection hS with hS
     injection hO with hO
     injection hB with hB
     subst hG;subst hN;subst hS;subst hO;subst hB
     have hSb:0<=S/\S<18446744073709551616:=by simp[Lit.wf,IntKind.min,IntKind.max,IntKind.bits,IntKind.signed]at wS;omega
     obtain⟨S,rfl⟩:=Int.eq_ofNat_of_zero_le hSb.1;obtain⟨maps,rr,rfl,hM⟩:=LL hm he q0 q1 q2 hCe v0 v1 v2 vb cb t3;refine⟨⟨sl,l,k,b,l'⟩,G,N,⟨S,O⟩,maps,B,⟨A,c⟩,⟨A',c'⟩,rr,rfl,⟨⟨hc,hc',hn,hn',hl,hl',hml,hm',hws,Ca hw2,fun x h=>(hxl x h).2,fun x h=>(hxl x h).1,hx'⟩,hM,?_,?_,Ca wG,Ca wN,by show S<_;omega,Ca wO⟩⟩
     · have h9:(bs sl).size<=reachBytes:=by simpa using hsd
       have:sl.length<=reachBytes:=by rwa [Ac]at h9
       unfold reachBytes at this;show sl.length<=_;omega
     · unfold reachBytes at hbd;show l'.length<=_;omega
end
end
section
open Go.RowKit Go.Shelf
attribute [local go_sem] Ad Ag Ah Ac Aj Ai
theorem MO (D:Dk)(p q:Pl)(w:World)(hD:IsDk w D p q)(hc:D.cache.length<=4398046511104):
 Calls Tryz.prog 44 #[dval D p q] w fun e w'=>e=.returned (.bool D.fit)/\Below w.heap.size w w':=by
 by_cases h:D.sz<1\/1024<D.sz\/D.data.length%64≠0\/4096<D.cache.length
 · exact MP D p q hD.data hc h w
 · exact MQ D p q w hD (by omega) (by omega) (by omega) (by omega)
theorem JW:∀(l:List Dm),(∀m∈l,m.bits.length=64)->∀(j:Nat)(hj:j<l.length)(k:Nat)(v:Value),(dmCells l[j])[k]? =some v->(dmRows l)[j*66+k]? =some v:=fun l=>by
 induction l with
 |nil=>intro _ j hj;simp at hj
 |cons x l ih=>
  intro hl j hj k v hv;have hx:=AH (hl x (by simp));show(dmCells x++dmRows l)[j*66+k]? =some v;cases j with
  |zero=>
   have hk:k<(dmCells x).length:=(List.getElem?_eq_some_iff.1 hv).1;rw[Nat.zero_mul,Nat.zero_add,List.getElem?_append_left hk];exact hv
  |succ j=>
   rw[List.getElem?_append_right (by omega),hx,show(j+1)*66+k-66=j*66+k by omega];exact ih (fun m hm=>hl m (by simp[hm])) j (by simpa using hj) k v hv
theorem IsMs.cells {w:World}{l:List Dm}{r:Pl}(h:IsMs w l r)(h0:0<l.length):∃b off,r.a=some ⟨b,off,none⟩/\b<w.heap.size/\∀j (hj:j<l.length),w.cell? ⟨b,off+j*66,none⟩=some (.string (bs l[j].name))/\w.cell? ⟨b,off+j*66+1,none⟩=some (.bool l[j].use)/\
 ∀k (hk:k<l[j].bits.length),w.cell? ⟨b,off+j*66+(2+k),none⟩=some (.bool l[j].bits[k]):=by
 rcases h.row with h1|⟨b,off,e,hc⟩
 · have:=congrArg List.length h1;rw[Bv h.bits]at this;simp at this;omega
 · have hk:=JW l h.bits;refine⟨b,off,e,?_,fun j hj=>⟨?_,?_,fun k hk'=>?_⟩⟩
   · exact World.block_lt_of_cell? _ _ (hc _ _ (hk 0 h0 0 _ rfl))
   · have:=hc _ _ (hk j hj 0 _ rfl);simpa using this
   · have:=hc _ _ (hk j hj 1 _ rfl)
     rwa [<-Nat.add_assoc]at this
   · have:=hc _ _ (hk j hj (2+k) _ (Fm _ k hk'))
     rwa [<-Nat.add_assoc]at this
def okAt (l:List Dm)(i:Nat):Bool:=nameOk (l.getD i Dm.zero).name&&((l.getD i Dm.zero).use&&(decide (i=0)||decide ((l.getD 0 Dm.zero).name≠(l.getD i Dm.zero).name)))
theorem F8 (l:List Dm):Im.nameds l=true↔∀i,i<l.length->okAt l i=true:=by
 cases l with
 |nil=>simp[Im.nameds]
 |cons m r=>
  simp only[Im.nameds,Bool.and_eq_true,List.all_eq_true,decide_eq_true_eq];constructor
  · rintro⟨h1,h2,h3⟩ i hi;cases i with
    |zero=>simp[okAt,h1,h2]
    |succ i=>
     have hi':i<r.length:=by simpa using hi
     have:=h3 r[i] (List.getElem_mem hi');simp[okAt,List.getD,hi',this]
  · intro h;have h0:=h 0 (by simp);simp[okAt]at h0;refine⟨h0.1,h0.2,fun o ho=>?_⟩;obtain⟨i,hi,rfl⟩:=List.getElem_of_mem ho;have:=h (i+1) (by simpa using hi);simpa[okAt,List.getD,hi]using this
theorem FB (l:List Dm){i:Nat}(h:i<l.length):l.getD i Dm.zero=l[i]:=by simp[List.getD,h]
def fitI (D:Dk)(g h:Int)(j:Jr)(maps:List Dm):Bool:=geomOk g h&&(D.fit&&(decide ((D.sz:Int)=96+2*h)&&(jrFit j&&Im.nameds maps)))
theorem ME (D:Dk)(g h:Int)(j:Jr)(maps:List Dm)(br:Bool)(p q r:Pl)(w:World)(hI:IsIm0 w D g h j maps p q r)(hc:D.cache.length<=300)(hl:maps.length<=2):
 Calls Tryz.prog 18 #[BQ D g h j maps br p q r] w fun e w'=>e=.returned (.bool (fitI D g h j maps))/\Below w.heap.size w w':=by
 have hD:=hI.d.full (by omega) hI.bad hI.data;have c1:=fun(W:World)=>Em g h W
 have c2:=fun(W:World)(hb:Below w.heap.size w W)=>MO D p q W (hD.below hb) (by omega)
 have c3:=fun(W:World)=>BG D p q hI.data W
 have c4:=fun(W:World)=>Ng g h W
 have c5:=fun(W:World)=>Nt j hI.seq hI.pos W
 have Hf:=hid (show fitI D g h j maps=(geomOk g h&&(D.fit&&(decide ((D.sz:Int)=96+2*h)&&(jrFit j&&Im.nameds maps))))from rfl);have hM:=hI.m;clear hD hI;obtain⟨sq,pos⟩:=j;obtain⟨A1,a1⟩:=p;obtain⟨A2,a2⟩:=q;obtain⟨A3,a3⟩:=r;have hB:=Below.refl w.heap.size w;have x:=Blk.new w 33 #[.string (bs D.data),.slice A1 D.cache.length a1,.int .i64 D.fuse,.bool D.off,.slice A2 D.bad.length a2,.int .i64 g,.int .i64 h,.int .u64 sq,.int .i64 pos,.slice A3 maps.length a3,.bool br];have xk:=Aa x;have hB_1:=Ya hB x;go_enter Tryz.func18,Tryz.ntmps18;go_wp2_with fail
 generalize (w.alloc (.cells #[.string (bs D.data),.slice A1 D.cache.length a1,.int .i64 D.fuse,.bool D.off,.slice A2 D.bad.length a2,.int .i64 g,.int .i64 h,.int .u64 sq,.int .i64 pos,.slice A3 maps.length a3,.bool br] 33))=V at hB_1 x xk ⊢;clear hB;have hB:=hB_1;clear hB_1;have X:=DQ x;have e1:=fun e:Ext V=>c1 e.world
 have e2:=fun e:Ext V=>c2 e.world (bt hB e.below)
 have e3:=fun e:Ext V=>c3 e.world
 have e4:=fun e:Ext V=>c4 e.world
 have e5:=fun e:Ext V=>c5 e.world
 clear c1 c2 c3 c4 c5;cases h1:geomOk g h with
 |false=>
  have Hr:=hid (show fitI D g h ⟨sq,pos⟩ maps=false by rw[Hf.out,h1];rfl);rw[h1]at e1;refine Ay mixed (by kernel_rfl) ?_
  repeat (go_big_quiet_step ((first|(go_at_call 43;with_reducible exact Al (e1 _)))))
  refine wpQuiet_nil ?_;rintro W ⟨pq_,hpq_⟩;have hW:=pq_.below;rw[<-hpq_]at hW;clear hpq_ pq_;go_wp2_with fail
  go_ret
  rw[Hr.out];exact⟨rfl,bt hB hW⟩
 |true=>
 rw[h1]at e1 e4;rw[if_pos rfl]at e4;cases h2:D.fit with
 |false=>
  have Hr:=hid (show fitI D g h ⟨sq,pos⟩ maps=false by rw[Hf.out,h1,h2];rfl);rw[h2]at e2;refine Ay mixed (by kernel_rfl) ?_
  repeat (go_big_quiet_step ((first|(go_at_call 43;with_reducible exact Al (e1 _))|(go_at_call 44;with_reducible exact Al (e2 _)))))
  refine wpQuiet_nil ?_;rintro W ⟨pq_,hpq_⟩;have hW:=pq_.below;rw[<-hpq_]at hW;clear hpq_ pq_;go_wp2_with fail
  go_ret
  rw[Hr.out];exact⟨rfl,bt hB hW⟩
 |true=>
 rw[h2]at e2;by_cases h3:(D.sz:Int)=96+2*h
 rotate_left
 · have Hr:=hid (show fitI D g h ⟨sq,pos⟩ maps=false by rw[Hf.out,h1,h2,decide_eq_false h3];rfl);have n3:(((D.sz:Nat):Int) !=96+2*h)=true:=by simpa using h3
   refine Ay mixed (by kernel_rfl) ?_
   repeat (go_big_quiet_step ((first|(go_at_call 43;with_reducible exact Al (e1 _))|(go_at_call 44;with_reducible exact Al (e2 _))|(go_at_call 45;with_reducible exact Al (e3 _))|(go_at_call 46;with_reducible exact Al (e4 _)))))
   refine wpQuiet_nil ?_;rintro W ⟨pq_,hpq_⟩;have hW:=pq_.below;rw[<-hpq_]at hW;clear hpq_ pq_;go_wp2_with fail
   go_ret
   rw[Hr.out];exact⟨rfl,bt hB hW⟩
 have n3:(((D.sz:Nat):Int) !=96+2*h)=false:=by simpa using h3
 cases h5:jrFit ⟨sq,pos⟩with
 |false=>
  have Hr:=hid (show fitI D g h ⟨sq,pos⟩ maps=false by rw[Hf.out,h1,h2,decide_eq_true h3,h5];rfl);rw[h5]at e5;replace h3:=hid h3;refine Ay mixed (by kernel_rfl) ?_
  repeat (go_big_quiet_step ((first|(go_at_call 43;with_reducible exact Al (e1 _))|(go_at_call 44;with_reducible exact Al (e2 _))|(go_at_call 45;with_reducible exact Al (e3 _))|(go_at_call 46;with_reducible exact Al (e4 _))|(go_at_call 47;with_reducible exact Al (e5 _)))))
  refine wpQuiet_nil ?_;rintro W ⟨pq_,hpq_⟩;have hW:=pq_.below;rw[<-hpq_]at hW;clear hpq_ pq_;go_wp2_with fail
  go_ret
  rw[Hr.out];exact⟨rfl,bt hB hW⟩
 |true=>
 have Hr:=hid (show fitI D g h ⟨sq,pos⟩ maps=Im.nameds maps by rw[Hf.out,h1,h2,decide_eq_true h3,h5];rfl);rw[h5]at e5;replace h3:=hid h3;refine Ay mixed (by kernel_rfl) ?_
 repeat (go_big_quiet_step ((first|(go_at_call 43;with_reducible exact Al (e1 _))|(go_at_call 44;with_reducible exact Al (e2 _))|(go_at_call 45;with_reducible exact Al (e3 _))|(go_at_call 46;with_reducible exact Al (e4 _))|(go_at_call 47;with_reducible exact Al (e5 _)))))
 refine wpQuiet_nil ?_;rintro W ⟨pq_,hpq_⟩;have hW:=pq_.below;rw[<-hpq_]at hW;clear hpq_ pq_;go_wp2_with fail
 have xW:=x.below hW x.lt;have HBW:=hid (bt hB hW);have hM2:=hM.below (bt hB hW);have Hcells:=hid (fun(h0:0<maps.length)=>hM2.cells h0);have Hnm:=hid hM2.name;clear e1 e2 e3 e4 e5 X x xk hB hW hM hM2;go_loopw [3] (fun y U=>∃m:Nat,m<=maps.length/\y=.int .i64 m/\Hid (∀i,i<m->okAt maps i=true)/\Below W.heap.size W U) (fun y _=>maps.length-(intOf y).toNat)
 case atStart=>exact⟨0,Nat.zero_le _,rfl,hid (fun i hi=>by omega),Below.refl _ _⟩
 case round=>
  obtain⟨m,hm,rfl,hok,hb⟩:=hrel;have xr:=xW.below hb xW.lt;have xk:=Aa xr;by_cases hlt:m<maps.length
  · obtain⟨gb,go,ea,hgb,hcs⟩:=Hcells.out (by omega);have ea':A3=some ⟨gb,go,none⟩:=ea;subst ea';have k1:=(hcs m hlt).1;have k2:=(hcs m hlt).2.1;have k3:=(hcs 0 (by omega)).1;simp only[Nat.zero_mul,Nat.add_zero]at k3;have hn1:=Hnm.out _ (List.getElem_mem hlt);have Hat:=hid (show okAt maps m=(nameOk maps[m].name&&(maps[m].use&&(decide (m=0)||decide (maps[0].name≠maps[m].name)))) by unfold okAt;rw[FB _ hlt,FB maps (i:=0) (by omega)]);have Hno:=hid (fun(h:okAt maps m=false)=>show Im.nameds maps=false by
     cases hn:Im.nameds maps with
     |false=>rfl
     |true=>have:=(F8 maps).1 hn m hlt;rw[h]at this;cases this)
    have Hyes:=hid (fun(h:okAt maps m=true)(i:Nat)(hi:i<m+1)=>show okAt maps i=true by
     rcases Nat.lt_or_eq_of_le (Nat.le_of_lt_succ hi)with h9|h9
     · exact hok.out i h9
     · rw[h9];exact h)
    generalize maps[m].name=nm at k1 hn1 Hat;generalize maps[m].use=us at k2 Hat;generalize maps[0].name=n0 at k3 Hat;have K1:=fun e:Ext wr=>e.cell (Av hb k1)
    have K2:=fun e:Ext wr=>e.cell (Av hb k2)
    have K3:=fun e:Ext wr=>e.cell (Av hb k3)
    have c6:=fun e:Ext wr=>show Calls Tryz.prog 30 #[.string (bs nm)] e.world (fun e' w'=>e'=.returned (.bool (nameOk nm))/\Below e.world.heap.size e.world w')from(Nc nm hn1 e.world).mono (fun _ _ h=>⟨h.1,by rw[<-h.2];exact Below.refl _ _⟩)
    have X:=DQ xr;clear k1 k2 k3 hcs hok;cases q1:nameOk nm with
    |false=>
     have Hf2:=hid (Hr.out.trans (Hno.out (by rw[Hat.out,q1];rfl)));rw[q1]at c6;clear q1;go_wp2_with fail
     refine Ay mixed (by kernel_rfl) ?_
     repeat (go_big_quiet_step ((go_at_call 30;with_reducible exact Al (c6 _))))
     refine wpQuiet_nil ?_;rintro U ⟨pq_,hpq_⟩;have hU:=pq_.below;rw[<-hpq_]at hU;clear hpq_ pq_;go_wp2_with fail
     go_ret
     rw[Hf2.out];exact⟨rfl,bt HBW.out (bt hb hU)⟩
    |true=>
    rw[q1]at c6;cases us with
    |false=>
     have Hf2:=hid (Hr.out.trans (Hno.out (by rw[Hat.out,q1];rfl)));clear q1;go_wp2_with fail
     refine Ay mixed (by kernel_rfl) ?_
     repeat (go_big_quiet_step ((go_at_call 30;with_reducible exact Al (c6 _))))
     refine wpQuiet_nil ?_;rintro U ⟨pq_,hpq_⟩;have hU:=pq_.below;rw[<-hpq_]at hU;clear hpq_ pq_;go_wp2_with fail
     go_ret
     rw[Hf2.out];exact⟨rfl,bt HBW.out (bt hb hU)⟩
    |true=>
    have lm0:(0:Int)<=(m:Int):=by omega
    by_cases h0:m=0
    · subst h0;have Hy:=hid (Hyes.out (by rw[Hat.out,q1];simp));clear q1 Hat Hno Hyes K3;simp only[Nat.zero_mul,Nat.add_zero]at K1 K2;go_wp2_with fail
      refine Ay mixed (by kernel_rfl) ?_
      repeat (go_big_quiet_step ((go_at_call 30;with_reducible exact Al (c6 _))))
      refine wpQuiet_nil ?_;rintro U ⟨pq_,hpq_⟩;have hU:=pq_.below;rw[<-hpq_]at hU;clear hpq_ pq_;go_wp2_with fail
      go_roundw
      case rel=>exact⟨0+1,by omega,by go_num,Hy,bt hb hU⟩
      case measure=>simp[intOf];omega
    · have m1:decide ((0:Int)<(m:Int))=true:=by simp;omega
      have m2:(0:Int)<(m:Int):=by omega
      have m3:0<m:=by omega
      have l1:0<maps.length:=by omega
      by_cases hq:n0=nm
      · subst hq;have Hf2:=hid (Hr.out.trans (Hno.out (by rw[Hat.out,q1];simp[h0])));have s1:(n0==n0)=true:=by simp
        clear q1 Hat Hno Hyes h0;go_wp2_with fail
        refine Ay mixed (by kernel_rfl) ?_
        repeat (go_big_quiet_step ((go_at_call 30;with_reducible exact Al (c6 _))))
        refine wpQuiet_nil ?_;rintro U ⟨pq_,hpq_⟩;have hU:=pq_.below;rw[<-hpq_]at hU;clear hpq_ pq_;go_wp2_with fail
        go_ret
        rw[Hf2.out];exact⟨rfl,bt HBW.out (bt hb hU)⟩
      · have Hy:=hid (Hyes.out (by rw[Hat.out,q1];simp[hq]));have s1:(n0==nm)=false:=beq_eq_false_iff_ne.2 hq;clear q1 Hat Hno Hyes h0 hq;go_wp2_with fail
        refine Ay mixed (by kernel_rfl) ?_
        repeat (go_big_quiet_step ((go_at_call 30;with_reducible exact Al (c6 _))))
        refine wpQuiet_nil ?_;rintro U ⟨pq_,hpq_⟩;have hU:=pq_.below;rw[<-hpq_]at hU;clear hpq_ pq_;go_wp2_with fail
        go_roundw
        case rel=>exact⟨m+1,by omega,by go_num,Hy,bt hb hU⟩
        case measure=>simp[intOf];omega
  · obtain rfl:m=maps.length:=by omega
    have Hf2:=hid (Hr.out.trans ((F8 maps).2 hok.out));clear hok;go_wp2_with fail
    go_ret
    rw[Hf2.out];exact⟨rfl,bt HBW.out hb⟩
theorem CH (w:World):Calls Tryz.prog 6 #[] w fun e w'=>e=.returned (.bool true)/\Below w.heap.size w w':=by
 obtain⟨e1,e2,e3,e4,e5⟩:=ev17;obtain⟨k1,k2,k3,k4⟩:=LJ;have m2:=CS.2.2.2.2.2.1;have m4:=CS.2.2.2.2.2.2.1;have m5:=CS.2.2.2.2.2.2.2.1;rw[m2]at m4;have him:=fun(W:World)=>MJ W
 have had:=fun(W:World)(p q r:Pl)(hI:IsIm W smI p q r)=>Iz smI p q r W hI Om [109] (by unfold maxLen;decide)
 rw[e1]at had;have hwr:=fun(W:World)(p q r:Pl)(hI:IsIm W bm1C p q r)=>MK bm1C p q r W hI (Im.okC_ok k1) 3 0 [120] (by constructor<;>omega) (by constructor<;>omega) (by decide)
 rw[e2]at hwr;have hsv:=fun(W:World)(p q r:Pl)(hI:IsIm W bm2C p q r)=>IG bm2C p q r W hI (Im.okC_ok k2)
 rw[e3]at hsv;have hl1:=fun(W:World)(p q r:Pl)(hI:IsIm W bm3C p q r)=>EU bm3C p q r W hI (Im.okC_ok k3)
 rw[e4]at hl1;have hl2:=fun(W:World)(p q r:Pl)(hI:IsIm W bm4C p q r)=>EU bm4C p q r W hI (Im.okC_ok k4)
 rw[e5]at hl2;clear e1 e2 e3 e4 e5 k1 k2 k3 k4;generalize smI=I0 at*;generalize bm1C=I1 at*;generalize bm2C=I2 at*;generalize bm3C=I3 at*;generalize bm4C=I4 at*;generalize bm5C=I5 at*;have hM64:(⟨[109],true,(List.replicate 64 false).set 3 true⟩:Dm).bits.length=64:=by simp
 have hMb3:(⟨[109],true,(List.replicate 64 false).set 3 true⟩:Dm).bits[3]'(by rw[hM64];omega)=true:=by simp
 have hMb2:(⟨[109],true,(List.replicate 64 false).set 3 true⟩:Dm).bits[2]'(by rw[hM64];omega)=false:=by simp
 have hMn:(⟨[109],true,(List.replicate 64 false).set 3 true⟩:Dm).name.length<=maxLen:=by unfold maxLen;decide
 have h564:(⟨[109],true,List.replicate 64 true⟩:Dm).bits.length=64:=by simp
 have h5b2:(⟨[109],true,List.replicate 64 true⟩:Dm).bits[2]'(by rw[h564];omega)=true:=by simp
 generalize (⟨[109],true,(List.replicate 64 false).set 3 true⟩:Dm)=M at*;generalize (⟨[109],true,List.replicate 64 true⟩:Dm)=M5 at*;obtain⟨D0,g0,h0,⟨s0,o0⟩,m0,b0⟩:=I0;obtain⟨D1,g1,h1,⟨s1,o1⟩,m1,b1⟩:=I1;obtain⟨D2,g2,h2,⟨s2,o2⟩,m2',b2⟩:=I2;obtain⟨D3,g3,h3,⟨s3,o3⟩,m3,b3⟩:=I3;obtain⟨D4,g4,h4,⟨s4,o4⟩,m4',b4⟩:=I4;obtain⟨D5,g5,h5,⟨s5,o5⟩,m5',b5⟩:=I5;simp only at m2 m4 m5;subst m2 m4 m5;have a36:=Tryz.dm_agg;have z36:=Tryz.dm_siz;have hB:=Below.refl w.heap.size w;go_enter Tryz.func6,Tryz.ntmps6;go_wp2_with fail
 go_at_call 19;refine((him _)).mono ?_;rintro e w1 ⟨⟨⟨A1,a1⟩,⟨A2,a2⟩,⟨A3,a3⟩,rfl,i1⟩,hb1⟩;replace hB:=bt hB hb1;go_wp2_with fail
 go_at_call 9;refine((had _ _ _ _ i1)).mono ?_;rintro e w2 ⟨⟨⟨xA,xa⟩,⟨xB,xb⟩,⟨xC,xc⟩,rfl,i2,oo2⟩,hb2⟩;replace hB:=bt hB hb2;replace i1:=i1.below hb2;clear oo2;have x:=Blk.new w2 33 #[.string (bs D1.data),.slice xA D1.cache.length xa,.int .i64 D1.fuse,.bool D1.off,.slice xB D1.bad.length xb,.int .i64 g1,.int .i64 h1,.int .u64 s1,.int .i64 o1,.slice xC m1.length xc,.bool b1];have xk:=Aa x;have xkf:=x.fz;have hB_1:=Ya hB x;have i2_2:=i2.below (Yb hB_1);have lx:=(x).lt;have ox:=i2.apart (Nat.le_refl w2.heap.size);go_wp2_with fail
 go_at_call 20;refine((hwr _ _ _ _ i2_2)).mono ?_;rintro e w3 ⟨⟨⟨vA,va⟩,⟨vB,vb⟩,⟨vC,vc⟩,rfl,i3,oo3⟩,hb3⟩;replace hB:=bt hB_1 hb3;replace i2:=i2_2.below hb3;replace x:=x.below hb3 x.lt;replace xk:=Aa x;replace xkf:=x.fz;clear hB_1 i2_2;have ox3:=oo3 w2.heap.size lx ox;have hs1:w.heap.size<=w2.heap.size:=(bt hb1 hb2).size;clear oo3;have hB_3:=As hB (g:=w2.heap.size) (by omega) (.string (bs D2.data)) (.slice vA D2.cache.length va) (.int .i64 D2.fuse) (.bool D2.off) (.slice vB D2.bad.length vb) (.int .i64 g2) (.int .i64 h2) (.int .u64 s2) (.int .i64 o2) (.slice vC [M].length vc) (.bool b2);have x_4:=Yh x hB_3;have i3_5:=i3.oc hB_3;go_wp2_with fail
 go_at_call 14;refine((hsv _ _ _ _ i3_5)).mono ?_;rintro e w4 ⟨⟨⟨sA,sa⟩,⟨sB,sb⟩,⟨sC,sc⟩,rfl,i4,oo4⟩,hb4⟩;replace hB:=bt hB_3 hb4;replace x:=x_4.below hb4 x_4.lt;replace xk:=Aa x;replace xkf:=x.fz;replace i3:=i3_5.below hb4;clear hB_3 x_4 i3_5;clear oo4;have s:=Blk.new w4 33 #[.string (bs D3.data),.slice sA D3.cache.length sa,.int .i64 D3.fuse,.bool D3.off,.slice sB D3.bad.length sb,.int .i64 g3,.int .i64 h3,.int .u64 s3,.int .i64 o3,.slice sC m3.length sc,.bool b3];have sk:=Aa s;have hB_6:=Ya hB s;have x_7:=Yc x hB_6;have i3_8:=i3.below (Yb hB_6);have i4_9:=i4.below (Yb hB_6);go_wp2_with fail
 go_at_call 16;refine((hl1 _ _ _ _ i4_9)).mono ?_;rintro e w5 ⟨⟨⟨yA,ya⟩,⟨yB,yb⟩,⟨yC,yc⟩,rfl,i5,oo5⟩,hb5⟩;replace hB:=bt hB_6 hb5;replace x:=x_7.below hb5 x_7.lt;replace xk:=Aa x;replace xkf:=x.fz;replace i3:=i3_8.below hb5;replace i4:=i4_9.below hb5;replace s:=s.below hb5 s.lt;replace sk:=Aa s;clear hB_6 x_7 i3_8 i4_9;clear oo5;have y:=Blk.new w5 33 #[.string (bs D4.data),.slice yA D4.cache.length ya,.int .i64 D4.fuse,.bool D4.off,.slice yB D4.bad.length yb,.int .i64 g4,.int .i64 h4,.int .u64 s4,.int .i64 o4,.slice yC [M].length yc,.bool b4];have yk:=Aa y;have hB_10:=Ya hB y;have x_11:=Yc x hB_10;have i3_12:=i3.below (Yb hB_10);have s_13:=Yc s hB_10;have i5_14:=i5.below (Yb hB_10);go_wp2_with fail
 go_at_call 16;refine((hl2 _ _ _ _ i5_14)).mono ?_;rintro e w6 ⟨⟨⟨zA,za⟩,⟨zB,zb⟩,⟨zC,zc⟩,rfl,i6,oo6⟩,hb6⟩;replace hB:=bt hB_10 hb6;replace x:=x_11.below hb6 x_11.lt;replace xk:=Aa x;replace xkf:=x.fz;replace i3:=i3_12.below hb6;replace s:=s_13.below hb6 s_13.lt;replace sk:=Aa s;replace i5:=i5_14.below hb6;replace y:=y.below hb6 y.lt;replace yk:=Aa y;clear hB_10 x_11 i3_12 s_13 i5_14;clear oo6;have z:=Blk.new w6 33 #[.string (bs D5.data),.slice zA D5.cache.length za,.int .i64 D5.fuse,.bool D5.off,.slice zB D5.bad.length zb,.int .i64 g5,.int .i64 h5,.int .u64 s5,.int .i64 o5,.slice zC [M5].length zc,.bool b5];have zk:=Aa z;have hB_15:=Ya hB z;have x_16:=Yc x hB_15;have xk_16:=Aa x_16;have xkf_16:=x_16.fz;have i3_17:=i3.below (Yb hB_15);have s_18:=Yc s hB_15;have sk_18:=Aa s_18;have i5_19:=i5.below (Yb hB_15);have y_20:=Yc y hB_15;have yk_20:=Aa y_20;have i6_21:=i6.below (Yb hB_15);go_wp2_with fail
 generalize (w6.alloc (.cells #[.string (bs D5.data),.slice zA D5.cache.length za,.int .i64 D5.fuse,.bool D5.off,.slice zB D5.bad.length zb,.int .i64 g5,.int .i64 h5,.int .u64 s5,.int .i64 o5,.slice zC [M5].length zc,.bool b5] 33))=T at hB_15 x_16 xk_16 xkf_16 i3_17 s_18 sk_18 i5_19 y_20 yk_20 i6_21 z zk ⊢;clear hB x i3 s i5 y i6 xk sk yk xkf;have hB:=hB_15;have x:=x_16;have xk:=xk_16;have xkf:=xkf_16;have i3:=i3_17;have s:=s_18;have sk:=sk_18;have i5:=i5_19;have y:=y_20;have yk:=yk_20;have i6:=i6_21;clear hB_15 x_16 xk_16 xkf_16 i3_17 s_18 sk_18 i5_19 y_20 yk_20 i6_21;obtain⟨gx,fx,ex,_,cx⟩:=(i3).m.cells (by simp);obtain⟨gy,fy,ey,_,cy⟩:=(i5).m.rows (by simp);obtain⟨gz,fz,ez,_,cz⟩:=(i6).m.cells (by simp);obtain⟨gx',fx',ex',_,cx'⟩:=(i3).m.rows (by simp);have ex2:vC=some ⟨gx,fx,none⟩:=ex;have ey2:yC=some ⟨gy,fy,none⟩:=ey;have ez2:zC=some ⟨gz,fz,none⟩:=ez;subst ex2 ey2 ez2;injection ex' with ex'
 injection ex' with ex1 ex2
 subst ex1 ex2;have kx3:=(cx 0 (by simp)).2.2 3 (by show 3<M.bits.length;omega);have kx2:=(cx 0 (by simp)).2.2 2 (by show 2<M.bits.length;omega);have kz2:=(cz 0 (by simp)).2.2 2 (by show 2<M5.bits.length;omega);simp only[List.getElem_cons_zero,hMb3,hMb2,h5b2,Nat.zero_mul,Nat.add_zero,<-Nat.add_assoc]at kx3 kx2 kz2;have kxl:=Tryz.dm_load M hM64 (cx' 0 (by simp));have kyl:=Tryz.dm_load M hM64 (cy 0 (by simp));have kxd:=fun n=>Tryz.dm_load M hM64 (BC (cx' 0 (by simp)) (Bq (Below.refl _ _) n))
 have kyd:=fun n=>Tryz.dm_load M hM64 (BC (cy 0 (by simp)) (Bq (Below.refl _ _) n))
 simp only[Nat.zero_mul,Nat.add_zero]at kxl kyl kxd kyd;clear cx cy cz cx' ex ey ez;simp only[List.append_eq,List.cons_append,List.nil_append];refine wp_region_quiet_lit (by kernel_rfl) (by kernel_rfl) ?_
 repeat (go_big_quiet_step (fail))
 go_big_quiet_want
 refine Cw (.bool true) (fun W=>Tryz.run_dm _ _ _ rfl M M rfl rfl hMn hM64 hMn hM64 true (decide_eq_true rfl) W) ?_;simp only[Yf]
 go_big_quiet_on
 repeat (go_big_quiet_step (fail))
 refine wpQuiet_nil ?_;intro _ hw';obtain⟨nq,hw''⟩:=hw';subst hw'';go_wp2_with fail
 go_ret
 exact⟨rfl,Bq hB nq⟩
def goodI (D:Dk)(g h:Int)(j:Jr)(maps:List Dm):Bool:=decide (D.cache.length<=300)&&(decide (maps.length<=2)&&fitI D g h j maps)
theorem FD {D:Dk}{g h:Int}{j:Jr}{maps:List Dm}:goodI D g h j maps=true↔D.cache.length<=300/\maps.length<=2/\geomOk g h=true/\D.fit=true/\(D.sz:Int)=96+2*h/\jrFit j=true/\Im.nameds maps=true:=by
 simp[goodI,fitI]
theorem Kx {w:World}{D:Dk}{g h:Int}{j:Jr}{maps:List Dm}{p q r:Pl}(br:Bool)(hI:IsIm0 w D g h j maps p q r)(hg:goodI D g h j maps=true):
 ∃hh:Nat,h=hh/\IsIm w ⟨D,g,hh,j,maps,br⟩ p q r/\(⟨D,g,hh,j,maps,br⟩:Im).Ok:=by
 obtain⟨h1,h2,h3,h4,h5,h6,h7⟩:=FD.1 hg;have hk:=DR.1 h3;obtain⟨hh,rfl⟩:=Int.eq_ofNat_of_zero_le (show 0<=h by omega);refine⟨hh,rfl,⟨hI.d.full (by omega) hI.bad hI.data,hI.m⟩,h4,by show 0<g/\g<=64;omega,by show 8<=hh/\hh<=256;omega,?_,hI.pos,h2,hI.m.bits⟩;have:=hI.seq;simp[jrFit]at h6;show j.seq<_;omega
theorem FC (D:Dk)(g h:Int)(j:Jr)(maps:List Dm)(br:Bool)(p q r:Pl)(w:World)(hI:IsIm0 w D g h j maps p q r):
 Calls Tryz.prog 5 #[BQ D g h j maps br p q r] w fun e w'=>e=.returned (.bool (goodI D g h j maps))/\Below w.heap.size w w':=by
 have hfit:=fun(W:World)(hb:Below w.heap.size w W)(h1:D.cache.length<=300)(h2:maps.length<=2)=>ME D g h j maps br p q r W (hI.below hb) h1 h2
 have hcl:=Nat.le_trans hI.d.pc hI.d.pm;have hml:=Nat.le_trans hI.m.cap hI.m.max;unfold maxLen at hcl hml;have Hg:=hid (show goodI D g h j maps=(decide (D.cache.length<=300)&&(decide (maps.length<=2)&&fitI D g h j maps))from rfl);clear hI;obtain⟨sq,pos⟩:=j;obtain⟨A1,a1⟩:=p;obtain⟨A2,a2⟩:=q;obtain⟨A3,a3⟩:=r;have hB:=Below.refl w.heap.size w;have x:=Blk.new w 33 #[.string (bs D.data),.slice A1 D.cache.length a1,.int .i64 D.fuse,.bool D.off,.slice A2 D.bad.length a2,.int .i64 g,.int .i64 h,.int .u64 sq,.int .i64 pos,.slice A3 maps.length a3,.bool br];have xk:=Aa x;have hB_1:=Ya hB x;by_cases h1:D.cache.length<=300
 · have g1:(D.cache.length:Int)<=300:=by omega
   by_cases h2:maps.length<=2
   · have g2:(maps.length:Int)<=2:=by omega
     have Hr:=hid (show goodI D g h ⟨sq,pos⟩ maps=fitI D g h ⟨sq,pos⟩ maps by rw[Hg.out,decide_eq_true h1,decide_eq_true h2];rfl);have hf:=fun(W:World)(hb:Below w.heap.size w W)=>hfit W hb h1 h2
     clear hfit h1 h2;go_enter Tryz.func5,Tryz.ntmps5;go_wp2_with fail
     go_at_call 18;refine((hf _ hB_1)).mono ?_;rintro e w1 ⟨rfl,hb1⟩;replace hB:=bt hB_1 hb1;replace x:=x.below hb1 x.lt;replace xk:=Aa x;clear hB_1;go_wp2_with fail
     go_ret
     rw[Hr.out];exact⟨rfl,hB⟩
   · have g2:¬(maps.length:Int)<=2:=by omega
     have Hr:=hid (show goodI D g h ⟨sq,pos⟩ maps=false by rw[Hg.out,decide_eq_false h2];simp);clear h1 h2 hfit;go_enter Tryz.func5,Tryz.ntmps5;go_wp2_with fail
     go_ret
     rw[Hr.out];exact⟨rfl,hB_1⟩
 · have g1:¬(D.cache.length:Int)<=300:=by omega
   have Hr:=hid (show goodI D g h ⟨sq,pos⟩ maps=false by rw[Hg.out,decide_eq_false h1];simp);clear h1 hfit;go_enter Tryz.func5,Tryz.ntmps5;go_wp2_with fail
   go_ret
   rw[Hr.out];exact⟨rfl,hB_1⟩
theorem MI (x:Im)(p q r p' q' r':Pl)(w:World)(h1:IsIm w x p q r)(h2:IsIm w x p' q' r')(hl:x.maps.length<=1000000)(hs:x.d.same x.d=true):
 Calls Tryz.prog 8 #[imval x p q r,imval x p' q' r'] w fun e w'=>e=.returned (.bool true)/\Below w.heap.size w w':=by
 have hsm:=fun(W:World)(hb:Below w.heap.size w W)=>M1 x.d x.d p q p' q' W (h1.d.below hb) (h2.d.below hb)
 rw[hs]at hsm;have hmr:=fun(W:World)(hb:Below w.heap.size w W)=>Mv x.maps h1.m.bits h1.m.name r.a r'.a r.c r'.c W (h1.m.row.below hb) (h2.m.row.below hb) hl
 clear h1 h2 hs;obtain⟨D,g,h,⟨seq,pos⟩,maps,br⟩:=x;obtain⟨A1,a1⟩:=p;obtain⟨A2,a2⟩:=q;obtain⟨A3,a3⟩:=r;obtain⟨B1,b1⟩:=p';obtain⟨B2,b2⟩:=q';obtain⟨B3,b3⟩:=r';simp only at hsm hmr hl;have hB:=Below.refl w.heap.size w;have x:=Blk.new w 33 #[.string (bs D.data),.slice A1 D.cache.length a1,.int .i64 D.fuse,.bool D.off,.slice A2 D.bad.length a2,.int .i64 g,.int .i64 h,.int .u64 seq,.int .i64 pos,.slice A3 maps.length a3,.bool br];have xk:=Aa x;have hB_1:=Ya hB x;have y:=Yd hB_1 33 #[.string (bs D.data),.slice B1 D.cache.length b1,.int .i64 D.fuse,.bool D.off,.slice B2 D.bad.length b2,.int .i64 g,.int .i64 h,.int .u64 seq,.int .i64 pos,.slice B3 maps.length b3,.bool br];simp only[Ys]at y;have yk:=Aa y;have hB_2:=Ya hB_1 y;have x_3:=Yc x hB_2;have xk_3:=Aa x_3;go_enter Tryz.func8,Tryz.ntmps8;go_wp2_with fail
 go_at_call 24;refine((hsm _ hB_2)).mono ?_;rintro e w1 ⟨rfl,hb1⟩;replace hB:=bt hB_2 hb1;replace x:=x_3.below hb1 x_3.lt;replace xk:=Aa x;replace y:=y.below hb1 y.lt;replace yk:=Aa y;clear hB_1 hB_2 xk_3 x_3;go_wp2_with fail
 go_at_call 25;refine((hmr _ hB)).mono ?_;rintro e w2 ⟨rfl,hb2⟩;replace hB:=bt hB hb2;replace x:=x.below hb2 x.lt;replace xk:=Aa x;replace y:=y.below hb2 y.lt;replace yk:=Aa y;go_wp2_with fail
 refine bodyPost_ret (v:=.bool true) (by simp[results,Tryz.results8,go_sem]) rfl ?_;exact⟨rfl,hB⟩
end
end Go.Proofs.YtmiilfnchfdfcaaGreatDoor
