/- By: Bitm4, Bitm7, Bitm6, Bitm8. -/
import Derived.Test.YtmiilfnchfdfcaaGreatDoorByBitm3
set_option maxRecDepth 100000
set_option maxHeartbeats 40000000
set_option linter.unusedVariables false
namespace Go.Proofs.YtmiilfnchfdfcaaGreatDoor
section
open Go.RowKit Go.Shelf
attribute [local go_sem] Ad Ag Ah Ac Aj Ai
theorem Gh {base:Nat}{e:TypeId}{size n g cap:Nat}:∀(vs:List Value)(j:Nat){w:World}{xs:List Value},w.ownsRow base e size (.slice (some ⟨g,0,none⟩) n cap) n xs->j+vs.length<=xs.length->
 (w.setCells g j vs).ownsRow base e size (.slice (some ⟨g,0,none⟩) n cap) n (xs.take j++vs++xs.drop (j+vs.length))
 |[],j,w,xs,h,_=>by simpa[World.setCells]using h
 |v::r,j,w,xs,h,hj=>by
  rw[List.length_cons]at hj;have h1:=Gh r (j+1) (Gg h j (by omega) v) (by rw[List.length_set];omega);have e:(xs.set j v).take (j+1)++r++(xs.set j v).drop (j+1+r.length)=xs.take j++(v::r)++xs.drop (j+(v::r).length):=by
   rw[List.drop_set_of_lt (by omega),List.length_cons,List.take_succ_eq_append_getElem (by rw[List.length_set];omega),List.getElem_set_self,List.take_set_of_le (Nat.le_refl _),List.append_assoc,List.append_assoc,List.append_assoc,show j+1+r.length=j+(r.length+1) by omega];rfl
  rw[e]at h1;exact h1
theorem JX:∀(l:List Dm),(∀m∈l,m.bits.length=64)->∀(i:Nat),i<l.length->∀m:Dm,(dmRows l).take (i*66)++dmCells m++(dmRows l).drop (i*66+66)=dmRows (l.set i m):=fun l=>by
 induction l with
 |nil=>intro _ i hi;simp at hi
 |cons x l ih=>
  intro h64 i hi m;have hx:=AH (h64 x (by simp));have e:dmRows (x::l)=dmCells x++dmRows l:=rfl;cases i with
  |zero=>
   rw[e,Nat.zero_mul,Nat.zero_add,List.take_zero,List.nil_append,List.drop_append_of_le_length (by omega),<-hx,List.drop_length,List.nil_append];rfl
  |succ i=>
   have hh:=ih (fun m hm=>h64 m (by simp[hm])) i (by simpa using hi) m;rw[e,List.set_cons_succ];show _=dmCells x++dmRows (l.set i m);rw[<-hh,show(i+1)*66=(dmCells x).length+i*66 by omega,List.take_append,List.drop_append,List.take_of_length_le (by omega),List.drop_eq_nil_of_le (by omega),List.nil_append,show(dmCells x).length+i*66-(dmCells x).length=i*66 by omega,show(dmCells x).length+i*66+66-(dmCells x).length=i*66+66 by omega];simp only[List.append_assoc]
theorem LR {w:World}{base:Nat}{e:TypeId}{size n g cap:Nat}{xs:List Value}(h:w.ownsRow base e size (.slice (some ⟨g,0,none⟩) n cap) n xs)(o k:Nat)(hk:o+k<=xs.length):w.there g o k:=
 fun j hj=>⟨by rw[Ge h (o+j) (by omega)];rfl,Gf h (o+j)⟩
theorem IsMs.offCells {l:List Dm}{r:Pl}{g:Nat}(ho:MsOff g l r):∀(vs:List Value)(o:Nat){w:World},IsMs w l r->IsMs (w.setCells g o vs) l r
 |[],_,_,h=>h
 |v::r,o,_,h=>IsMs.offCells ho r (o+1) (h.off (a:=⟨g,o,none⟩) ho v)
theorem IsMs.offD {w:World}{l:List Dm}{r:Pl}(h:IsMs w l r){g:Nat}(ho:MsOff g l r)(b:Dm):IsMs (w.setCells g 0 (dmCells b)) l r:=IsMs.offCells ho (dmCells b) 0 h
def RowMs (w:World)(base:Nat)(t:TypeId)(l:List Dm)(g n c:Nat):Prop:=w.ownsRow base t 66 (.slice (some ⟨g,0,none⟩) n c) n (dmRows l)
theorem RowMs.below {w w':World}{base:Nat}{t:TypeId}{l:List Dm}{g n c:Nat}(h:RowMs w base t l g n c)(hb:Below w.heap.size w w'):RowMs w' base t l g n c:=AD h hb
theorem RowMs.cell {w:World}{base:Nat}{t:TypeId}{l:List Dm}{g n c:Nat}(h:RowMs w base t l g n c){G:Nat}(hG:G≠g)(o:Nat)(v:Value):RowMs (w.setCell ⟨G,o,none⟩ v) base t l g n c:=
 World.ownsRow.kept h (Bw w G o v) (.inr (by intro e;injection e with e;exact hG e.symm))
theorem IB (x:Im)(p q r:Pl)(w:World)(hI:IsIm w x p q r)(ok:x.Ok)(nm:List UInt8)(hnm:nm.length<=maxLen):
 Calls Tryz.prog 7 #[imval x p q r,.string (bs nm)] w fun e w'=>RetIm w.heap.size x p q r (x.bmClear nm) e w'/\Below w.heap.size w w':=by
 have hal:=fun(W:World)(hb:Below w.heap.size w W)=>IA x p q r W (hI.below hb) nm hnm
 have hcl:=fun(W:World)(hb:Below w.heap.size w W)=>EY x.maps r W (hI.m.below hb) (by have:=ok.maps;omega)
 have Hap:=hid (fun g (hg:w.heap.size<=g)=>hI.apart hg);have HC:=hid (show x.bmClear nm=if x.br=true then(x,24)else if dmFind x.maps nm<0 then(x,21)else(x.withMaps (x.maps.set (dmFind x.maps nm).toNat (dmFresh nm)),0)from rfl);have hkr:=Co x.maps nm;have h64:=hI.m.bits;have hnms:=hI.m.name;have hml:=ok.maps;generalize dmFind x.maps nm=k at*;obtain⟨hd,hm⟩:=hI;clear ok;obtain⟨D,g,h,⟨seq,pos⟩,maps,br⟩:=x;simp only[Im.withMaps]at hd hm hal hcl Hap HC hkr h64 hnms hml;obtain⟨A1,a1⟩:=p;obtain⟨A2,a2⟩:=q;obtain⟨A3,a3⟩:=r;have z36:=Tryz.dm_siz;have or0:=Hap.out (w.heap.size+1) (by omega);have ord:=or0.1;have orm:=or0.2;have ord0:=(Hap.out w.heap.size (Nat.le_refl _)).1;have hB:=Below.refl w.heap.size w;have x:=Blk.new w 33 #[.string (bs D.data),.slice A1 D.cache.length a1,.int .i64 D.fuse,.bool D.off,.slice A2 D.bad.length a2,.int .i64 g,.int .i64 h,.int .u64 seq,.int .i64 pos,.slice A3 maps.length a3,.bool br];have xk:=Aa x;have xkf:=x.fz;have hB_1:=Ya hB x;have hd_2:=hd.below (Yb hB_1);have hm_3:=hm.below (Yb hB_1);have r:=Yd hB_1 33 #[.string (bs []),.slice none 0 0,.int .i64 0,.bool false,.slice none 0 0,.int .i64 0,.int .i64 0,.int .u64 0,.int .i64 0,.slice none 0 0,.bool false];simp only[Ys]at r;have rk:=Aa r;have rkf:=r.fz;have hB_4:=Ya hB_1 r;have hd_5:=hd_2.below (Yb hB_4);have hm_6:=hm_3.below (Yb hB_4);have x_7:=Yc x hB_4;have xk_7:=Aa x_7;have xkf_7:=x_7.fz;cases br with
 |true=>
  rw[if_pos rfl,if_pos rfl]at hal;have Hr:=hid (HC.out.trans (if_pos rfl));have n1:((24:Int) !=0)=true:=by decide
  clear HC hcl hkr;go_enter Tryz.func7,Tryz.ntmps7;go_wp2_with fail
  go_at_call 21;refine((hal _ hB_4)).mono ?_;rintro e w1 ⟨rfl,hb1⟩;replace hB:=bt hB_4 hb1;replace hd:=hd_5.below hb1;replace hm:=hm_6.below hb1;replace x:=x_7.below hb1 x_7.lt;replace xk:=Aa x;replace xkf:=x.fz;replace r:=r.below hb1 r.lt;replace rk:=Aa r;replace rkf:=r.fz;clear hB_1 hd_2 hm_3 hB_4 hd_5 hm_6 xk_7 xkf_7 x_7;have hrl1:=hid (r.lt);have hB_8:=As hB (g:=w.heap.size+1) (by omega) (.string (bs D.data)) (.slice A1 D.cache.length a1) (.int .i64 D.fuse) (.bool D.off) (.slice A2 D.bad.length a2) (.int .i64 g) (.int .i64 h) (.int .u64 seq) (.int .i64 pos) (.slice A3 maps.length a3) (.bool true);have hd_9:=hd.oc hB_8;have hm_10:=hm.oc hB_8;have r_12:=Yh r hB_8;have yy:=Aa r_12;have bw:=hB_8;have dw:=hd_9;have mw:=hm_10;go_wp2_with fail
  refine bodyPost_ret (v:=.tuple #[imval ⟨D,g,h,⟨seq,pos⟩,maps,true⟩ ⟨A1,a1⟩ ⟨A2,a2⟩ ⟨A3,a3⟩,.int .i64 24]) (by simp[results,Tryz.results7,go_sem,yy]) rfl ?_;rw[Hr.out];exact⟨⟨⟨A1,a1⟩,⟨A2,a2⟩,⟨A3,a3⟩,rfl,⟨dw,mw⟩,fun _ _ h=>h⟩,bw⟩
 |false=>
 rw[if_neg (show¬(false=true) by simp),if_neg (show¬(false=true) by simp)]at hal;by_cases hk:k<0
 · rw[if_pos hk,if_pos hk]at hal;have Hr:=hid (HC.out.trans ((if_neg (by simp)).trans (if_pos hk)));clear HC hcl hkr hk;go_enter Tryz.func7,Tryz.ntmps7;go_wp2_with fail
   go_at_call 21;refine((hal _ hB_4)).mono ?_;rintro e w1 ⟨rfl,hb1⟩;replace hB:=bt hB_4 hb1;replace hd:=hd_5.below hb1;replace hm:=hm_6.below hb1;replace x:=x_7.below hb1 x_7.lt;replace xk:=Aa x;replace xkf:=x.fz;replace r:=r.below hb1 r.lt;replace rk:=Aa r;replace rkf:=r.fz;clear hB_1 hd_2 hm_3 hB_4 hd_5 hm_6 xk_7 xkf_7 x_7;have hrl1:=hid (r.lt);have hB_8:=As hB (g:=w.heap.size+1) (by omega) (.string (bs D.data)) (.slice A1 D.cache.length a1) (.int .i64 D.fuse) (.bool D.off) (.slice A2 D.bad.length a2) (.int .i64 g) (.int .i64 h) (.int .u64 seq) (.int .i64 pos) (.slice A3 maps.length a3) (.bool false);have hd_9:=hd.oc hB_8;have hm_10:=hm.oc hB_8;have r_12:=Yh r hB_8;have yy:=Aa r_12;have bw:=hB_8;have dw:=hd_9;have mw:=hm_10;go_wp2_with fail
   refine bodyPost_ret (v:=.tuple #[imval ⟨D,g,h,⟨seq,pos⟩,maps,false⟩ ⟨A1,a1⟩ ⟨A2,a2⟩ ⟨A3,a3⟩,.int .i64 21]) (by simp[results,Tryz.results7,go_sem,yy]) rfl ?_;rw[Hr.out];exact⟨⟨⟨A1,a1⟩,⟨A2,a2⟩,⟨A3,a3⟩,rfl,⟨dw,mw⟩,fun _ _ h=>h⟩,bw⟩
 rw[if_neg hk,if_neg hk]at hal;obtain⟨i,rfl⟩:=Int.eq_ofNat_of_zero_le (show 0<=k by omega);have hi:i<maps.length:=by omega
 have HC2:=hid (HC.out.trans ((if_neg (by simp)).trans (if_neg hk)));rw[Int.toNat_natCast]at HC2;clear HC hkr hk;go_enter Tryz.func7,Tryz.ntmps7;go_wp2_with fail
 go_at_call 21;refine((hal _ hB_4)).mono ?_;rintro e w1 ⟨rfl,hb1⟩;replace hB:=bt hB_4 hb1;replace hd:=hd_5.below hb1;replace hm:=hm_6.below hb1;replace x:=x_7.below hb1 x_7.lt;replace xk:=Aa x;replace xkf:=x.fz;replace r:=r.below hb1 r.lt;replace rk:=Aa r;replace rkf:=r.fz;clear hB_1 hd_2 hm_3 hB_4 hd_5 hm_6 xk_7 xkf_7 x_7;have hrl1:=hid (r.lt);clear hal;obtain⟨ms,hms⟩:∃ms,maps.set i (dmFresh nm)=ms:=⟨_,rfl⟩;have hl:ms.length=maps.length:=by rw[<-hms,List.length_set]
 have hb64:∀m∈ms,m.bits.length=64:=fun m hm=>by
  rw[<-hms]at hm
  rcases List.mem_or_eq_of_mem_set hm with h|rfl
  · exact h64 m h
  · exact Be nm
 have hbnm:∀m∈ms,m.name.length<=maxLen:=fun m hm=>by
  rw[<-hms]at hm
  rcases List.mem_or_eq_of_mem_set hm with h|rfl
  · exact hnms m h
  · exact hnm
 have Hr:=hid (show Im.bmClear ⟨D,g,h,⟨seq,pos⟩,maps,false⟩ nm=(⟨D,g,h,⟨seq,pos⟩,ms,false⟩,0) by rw[HC2.out,hms]);clear HC2;go_wp2_with fail
 go_at_call 22;refine(hcl _ hB).mono ?_;rintro e w2 ⟨v,rfl,hv,hb2⟩;have hB2:=bt hB hb2;have x2:=(x).below hb2 (x).lt;have r2:=(r).below hb2 (r).lt;have d2:=(hd).below hb2;rw[<-hl]at hv;obtain⟨AC,cC,rfl,_,_,_⟩:=Az hv;obtain⟨gC,hgC,hgB,hrl66⟩:∃gC,AC=some ⟨gC,0,none⟩/\w.heap.size+1<gC/\(dmRows maps).length=maps.length*66:=by
  rcases hv.2 with ⟨h',h0⟩|⟨g',cap,cur,h',hb,_⟩
  · omega
  · injection h' with h' _ _
    refine⟨g',h',?_,Bv h64⟩;have:=hrl1.out;omega
 subst hgC;replace hl:=hid hl;replace hms:=hid hms;clear hB x xk r rk hd hm hcl xkf rkf;have xk:=Aa x2;have xkf:=x2.fz;have rk:=Aa r2;have rkf:=r2.fz;have hB2_1:=(hB2).setCell (p:=⟨w.heap.size,9,none⟩) (by show _<=(w.heap.size:Nat);omega) (.slice (some ⟨gC,0,none⟩) ms.length cC);have d2_2:=d2.o1 hB2_1;have x2_3:=(x2).set 9 (.slice (some ⟨gC,0,none⟩) ms.length cC);simp only[Ye]at x2_3;have xk_3:=Aa x2_3;have xkf_3:=x2_3.fz;have r2_4:=Yx r2 hB2_1;have rk_4:=Aa r2_4;have rkf_4:=r2_4.fz;have hw:=RowMs.cell (show RowMs w2 _ _ maps gC ms.length cC from hv) (G:=w.heap.size) (by omega) 9 (.slice (some ⟨gC,0,none⟩) ms.length cC);clear hv;go_wp2_with fail
 generalize (w2.setCell ⟨w.heap.size,9,none⟩ (.slice (some ⟨gC,0,none⟩) ms.length cC))=V at hB2_1 d2_2 x2_3 xk_3 xkf_3 r2_4 rk_4 rkf_4 hw ⊢;clear hB2 d2 x2 r2 xk rk xkf rkf;have hB2:=hB2_1;have d2:=d2_2;have x2:=x2_3;have xk:=xk_3;have xkf:=xkf_3;have r2:=r2_4;have rk:=rk_4;have rkf:=rkf_4;clear hB2_1 d2_2 x2_3 xk_3 xkf_3 r2_4 rk_4 rkf_4;have hi2:i<ms.length:=by have:=hl.out;omega
 have xr:=x2;have rr:=r2;have dr:=d2;have hv:V.ownsRow _ _ _ _ _ _:=hw;have oC:DkOff gC D ⟨A1,a1⟩ ⟨A2,a2⟩:=(Hap.out gC (by omega)).1;have KX:=fun(W:World)(hW:Below V.heap.size V W)=>Aa (xr.below hW xr.lt)
 have s0:Below V.heap.size V V.drew:=(Below.refl _ _).drew;refine AT (S:=fun W=>Below V.heap.size V W) (late:=fun i=>i==6) (by kernel_rfl) ?_;generalize V.drew=U0 at s0 ⊢;simp only[Nat.reduceAdd,Yn];refine Yt 0 22 (.pointer (some ⟨w.heap.size,9,none⟩)) ?_;simp only[Yf];refine Yu 1 (some 23) (.slice (some ⟨gC,0,none⟩) ms.length cC) rfl (fun W hW=>by have h:=KX W hW;go_simp) s0 ?_;simp only[Yf];refine Yt 2 24 (.int .i64 (i:Int)) ?_;simp only[Yf];refine Yt 3 25 (.string (bs nm)) ?_;simp only[Yf];refine Yo 4 (fun K' hK=>?_);refine oper_enter' (f:=23) (args:=#[.string (bs nm)]) (w':=U0) (by go_simp) ((DF nm U0).mono ?_);rintro e U1 ⟨rfl,hb0⟩;refine⟨_,rfl,?_⟩;show K' (Act.put _ (some 26) _) _;have s1:=s0.trans (hb0.mono s0.size);have o1:=AD hv s1;have st:=Tryz.dm_store (dmFresh nm) (Be nm) (LR o1 (i*dmN) 66 (by rw[hrl66];unfold dmN;omega));have dl:=AU (Be nm);have o2:=Gh (dmCells (dmFresh nm)) (i*dmN) o1 (by rw[hrl66,dl];unfold dmN;omega);rw[dl]at o2;have e8:=hid (show i*dmN=i*66 from rfl);rw[show i*dmN+dmN=i*66+66 from rfl,e8.out,JX maps h64 i hi,hms.out]at o2;have b9:=below_setCells' (B:=w.heap.size) (g:=gC) (by omega) (dmCells (dmFresh nm)) (i*66) (bt hB2 s1);have x9:Blk (U1.setCells gC (i*66) (dmCells (dmFresh nm))) w.heap.size 33 _:=(BK (by omega) (dmCells (dmFresh nm)) (i*66) U1).trans (xr.below s1 xr.lt);have rr9:Blk (U1.setCells gC (i*66) (dmCells (dmFresh nm))) (w.heap.size+1) 33 _:=(BK (by omega) (dmCells (dmFresh nm)) (i*66) U1).trans (rr.below s1 rr.lt);have d9:=IsDk.offCells oC (dmCells (dmFresh nm)) (i*66) (dr.below s1);refine hK _ _ (fun _ _=>s1) ?_;simp only[Yf];generalize dmFresh nm=M at*;refine Yt 5 27 (.pointer (some ⟨gC,i*dmN,none⟩)) ?_;simp only[Yf];refine Yo 6 (fun K' hK=>?_);refine Aw (w':=U1.setCells gC (i*66) (dmCells M)) (by rw[<-e8.out];go_simp) ?_;show K' (Act.put _ none _) _;refine hK _ _ (fun h=>absurd h (by decide)) ?_
 try simp only[Yf]
 refine Ar (by kernel_rfl) ?_ _;generalize U1.setCells gC (i*66) (dmCells M)=Uz at o2 b9 x9 rr9 d9 ⊢;have mm:=IsMs.of_own rfl o2 hb64 hbnm;have Q9:∀g',g'<w.heap.size+2->MsOff g' ms ⟨some ⟨gC,0,none⟩,cC⟩:=fun g' h=>.inr (fun b off e=>by injection e with e;injection e with e1 _;omega)
 have qr:=Q9 (w.heap.size+1) (by omega);replace Q9:=hid Q9;clear KX xr rr dr hv hw o1 s0 s1 x2 r2 d2 hB2 xk xkf rk rkf o2 st;have xk2:=Aa x9;have rk2:=Aa rr9;have rk2f:=rr9.fz;have b9_1:=As b9 (g:=w.heap.size+1) (by omega) (.string (bs D.data)) (.slice A1 D.cache.length a1) (.int .i64 D.fuse) (.bool D.off) (.slice A2 D.bad.length a2) (.int .i64 g) (.int .i64 h) (.int .u64 seq) (.int .i64 pos) (.slice (some ⟨gC,0,none⟩) ms.length cC) (.bool false);have d9_2:=d9.oc b9_1;have mm_3:=mm.oc b9_1;have rr9_5:=Yh rr9 b9_1;have yy:=Aa rr9_5;have bw:=b9_1;have dw:=d9_2;have mw:=mm_3;go_wp2_with fail
 refine bodyPost_ret (v:=.tuple #[imval ⟨D,g,h,⟨seq,pos⟩,ms,false⟩ ⟨A1,a1⟩ ⟨A2,a2⟩ ⟨some ⟨gC,0,none⟩,cC⟩,.int .i64 0]) (by simp[results,Tryz.results7,go_sem,yy]) rfl ?_;rw[Hr.out];exact⟨⟨⟨A1,a1⟩,⟨A2,a2⟩,⟨some ⟨gC,0,none⟩,cC⟩,rfl,⟨dw,mw⟩,fun g' h1 h2=>⟨h2.1,Q9.out g' (by omega)⟩⟩,bw⟩
end
section
open Go.RowKit Go.Shelf
attribute [local go_sem] Ad Ag Ah Ac Aj Ai Oper.semAt_some
def thereN (l:List Dm)(j:Nat):List (Nat×Dm):=((Im.numbered l).take j).filter fun p=>decide (p.2.name≠[])
def thereL (l:List Dm):List (Nat×Dm):=(Im.numbered l).filter fun p=>decide (p.2.name≠[])
def thEnc (Z:List (Nat×Dm))(i:Fin Z.length):Array Value:=#[.int .i64 (Z[i.val].1:Nat),dmval Z[i.val].2]
theorem BX (l:List Dm):(Im.numbered l).length=l.length:=by simp[Im.numbered]
theorem Ed (l:List Dm){j:Nat}(h:j<l.length):(Im.numbered l)[j]'(by rw[BX];exact h)=(j,l[j]):=by simp[Im.numbered,List.getD,h]
theorem Pg (l:List Dm):thereN l l.length=thereL l:=by
 unfold thereN thereL;rw[List.take_of_length_le (by rw[BX];exact Nat.le_refl _)]
theorem HH {l:List Dm}{j:Nat}(h:j<l.length)(hn:l[j].name≠[]):thereN l (j+1)=thereN l j++[(j,l[j])]:=by
 unfold thereN;rw[List.take_succ_eq_append_getElem (by rw[BX];exact h),List.filter_append,Ed l h];simp[hn]
theorem Pi {l:List Dm}{j:Nat}(h:j<l.length)(hn:l[j].name=[]):thereN l (j+1)=thereN l j:=by
 unfold thereN;rw[List.take_succ_eq_append_getElem (by rw[BX];exact h),List.filter_append,Ed l h];simp[hn]
theorem HJ (l:List Dm)(j:Nat):∃r,thereL l=thereN l j++r:=⟨((Im.numbered l).drop j).filter fun p=>decide (p.2.name≠[]),by
 unfold thereL thereN;rw[<-List.filter_append,List.take_append_drop]⟩
theorem Ph {l:List Dm}{j:Nat}(h:j<l.length)(hn:l[j].name≠[]):∃hp:(thereN l j).length<(thereL l).length,(thereL l)[(thereN l j).length]=(j,l[j]):=by
 obtain⟨r,hr⟩:=HJ l (j+1);rw[HH h hn,List.append_assoc]at hr;have e:(thereL l)[(thereN l j).length]? =some (j,l[j]):=by rw[hr];simp
 obtain⟨h1,h2⟩:=List.getElem?_eq_some_iff.1 e;exact⟨h1,h2⟩
theorem HK {l:List Dm}{p:Nat×Dm}(h:p∈thereL l):∃hj:p.1<l.length,p.2=l[p.1]/\p.2.name≠[]:=by
 unfold thereL at h;rw[List.mem_filter]at h;obtain⟨h1,h2⟩:=h;obtain⟨j,hj,e⟩:=List.getElem_of_mem h1;rw[BX]at hj;rw[Ed l hj]at e;subst e;exact⟨hj,rfl,by simpa using h2⟩
theorem Pk (l:List Dm):(thereL l).length<=l.length:=by
 unfold thereL;exact Nat.le_trans (List.length_filter_le _ _) (by rw[BX];exact Nat.le_refl _)
theorem Pm (n:Nat)(hn:1<=n)(l:List Dm)(R:Pl)(B0 Bp:Nat)(w:World)(h0:B0<=w.heap.size)(hLW:∀W,Below B0 w W->IsMs W l R)(bp:Blk w Bp 31 #[.slice R.a l.length R.c]):
 SeqC 0 Fence.wide n Tryz.prog 84 #[.pointer (some ⟨Bp,0,none⟩)] (thEnc (thereL l)) (KeepB B0 [Bp])
  (fun ys=>picked (thereL l) ys=thereL l) (fun pre=>∃r,thereL l=picked (thereL l) pre++r) (thereL l).length w:=by
 intro lp J Jx W hW hJ hJx hY h0J;have HY:=hid hY;have HM:=hid hLW;have hll:l.length<=maxLen:=by have:=hLW w (Below.refl _ _);exact Nat.le_trans this.cap this.max
 unfold maxLen at hll;have kW:KeepB B0 [Bp] w W:=KeepB.later hW h0 (fun g hg=>by
  simp only[List.mem_cons,List.not_mem_nil,or_false]at hg
  rcases hg with rfl
  exact bp.lt)
 have sW:=hW.size;obtain⟨A3,a3⟩:=R;have in1:Bp∈[Bp]:=by simp
 have bp0:=blk1 (bp.at_ (kW.at_ _ in1));have a36:=Tryz.dm_agg;have z36:=Tryz.dm_siz;have zc:=Tryz.dm_zeros;clear hY hLW;refine callsIn_of_wp Tryz.func84 rfl trivial ?_ rfl;simp only[Tryz.ntmps84,Nat.reduceAdd,Nat.reduceSub,Yn]
 gi_wp2_with fail
 gi_loopw [7] (fun x V=>∃j:Nat,j<=l.length/\x=.int .i64 j/\(∃pre,Hid (pre.length=(thereN l j).length/\picked (thereL l) pre=thereN l j)/\J pre V)/\Hid (KeepB B0 [Bp] w V/\W.heap.size<=V.heap.size)) (fun x _=>l.length-(intOf x).toNat)
 case atStart=>exact⟨0,Nat.zero_le _,rfl,⟨[],hid ⟨rfl,rfl⟩,h0J⟩,hid ⟨kW,Nat.le_refl _⟩⟩
 case round=>
  obtain⟨j,hj,rfl,⟨pre,hpp,hJm⟩,hk⟩:=hrel;clear bp0 h0J kW;by_cases hlt:j<l.length
  · have hP:=HM.out wr hk.out.1.below;obtain⟨gb,go,ea,hgb,hcs⟩:=hP.rows (by omega);have ea':A3=some ⟨gb,go,none⟩:=ea;subst ea';have h64:=hP.bits _ (List.getElem_mem hlt);have hnl:=hP.name _ (List.getElem_mem hlt);have k1:=Tryz.dm_load l[j] h64 (hcs j hlt);have Hskip:=hid (fun(hn:l[j].name=[])=>Pi hlt hn);have Hyes:=hid (fun(hn:l[j].name≠[])=>And.intro (Ph hlt hn) (HH hlt hn));obtain⟨m,hm⟩:∃m,l[j]=m:=⟨_,rfl⟩;rw[hm]at h64 hnl k1 Hskip Hyes;clear hm hcs hP;have Hj1:=hid (show j+1<=l.length from hlt);have HJm:=hid hJm;clear hJm;have hB:=Below.refl wr.heap.size wr;have v:=Blk.new wr 42 (dmCells Dm.zero).toArray;have hB_1:=hB.alloc hB.size (.cells (dmCells Dm.zero).toArray 42);have s0:=Tryz.dm_put (a:=Dm.zero) m h64 rfl v;have hB_2:=AM hB_1 (g:=wr.heap.size) (by omega) m;have v_3:=AN v m rfl h64;have vk_3:=Tryz.dm_all m h64 v_3;have HJ1:=hid (OwnFrom.later hJ HJm.out hB_2);have Hk1:=hid (KeepB.later hB_2 (Nat.le_trans h0 (Nat.le_trans sW hk.out.2)) (fun g hg=>by
     simp only[List.mem_cons,List.not_mem_nil,or_false]at hg
     rcases hg with rfl
     have:=bp.lt;have:=hk.out.2;omega):KeepB B0 [Bp] wr _)
    have hB1:=hB_2;obtain⟨nn,hnn⟩:∃nn,m.name=nn:=⟨_,rfl⟩;have vk0:=vk_3;rw[hnn]at hnl Hskip Hyes vk0;have vl:=AU h64;have Hvs:=hid (show wr.heap.size<=_ from hB1.size);cases nn with
    |nil=>
     have Hs:=hid (Hskip.out rfl);clear Hskip Hyes
     gi_wp2_with fail
     refine⟨fun _ h=>(nomatch h),?_⟩
     gi_wp2_with fail
     go_roundw
     case rel=>exact⟨j+1,Hj1.out,by go_num,⟨pre,hid ⟨by rw[Hs.out];exact hpp.out.1,by rw[Hs.out];exact hpp.out.2⟩,HJ1.out⟩,hid ⟨hk.out.1.trans Hk1.out,Nat.le_trans hk.out.2 Hvs.out⟩⟩
     case measure=>have:=Hj1.out;simp[intOf];omega
    |cons c0 t0=>
     obtain⟨⟨hp,hpe⟩,hnx⟩:=Hyes.out (by simp);have Hp2:=hid (show picked (thereL l) (pre++[⟨(thereN l j).length,hp⟩])=thereN l (j+1) by rw[BB,hpp.out.2,hnx];congr 1;exact congrArg (fun x=>[x]) hpe);have Hp1:=hid (show(pre++[(⟨(thereN l j).length,hp⟩:Fin (thereL l).length)]).length=(thereN l (j+1)).length by rw[hnx,List.length_append,List.length_append,hpp.out.1];rfl);have Hpr:=hid (HJ l (j+1));obtain⟨fn,tmps,assign,body,hy,hR⟩:=HY.out pre ⟨(thereN l j).length,hp⟩ _ HJ1.out (by rw[hpp.out.1];exact hp) (by have:=hk.out.2;have:=hB1.size;omega);simp only[thEnc,hpe]at hy;clear hpe hnx Hskip Hyes
     gi_wp2_with fail
     refine hR.mono ?_;rintro e W3 (⟨rfl,hJ3,hkf,hst3,hk3⟩|⟨rfl,hJx3,_⟩)
     · have HJ3:=hid hJ3;have Hk3:=hid hk3;have Hs3:=hid hst3.1;clear hJ3 hR hy hkf hst3 hk3
       gi_wp2_with fail
       go_roundw
       case rel=>exact⟨j+1,Hj1.out,by go_num,⟨_,hid ⟨Hp1.out,Hp2.out⟩,HJ3.out⟩,hid ⟨(hk.out.1.trans Hk1.out).trans Hk3.out,Nat.le_trans (Nat.le_trans hk.out.2 Hvs.out) Hs3.out⟩⟩
       case measure=>have:=Hj1.out;simp[intOf];omega
     · have HJx:=hid hJx3;clear hJx3 hR hy
       gi_wp2_with fail
       refine bodyPost_ret (results_none rfl _ _ _) rfl ?_;exact⟨⟨_,rfl⟩,.inr ⟨_,by rw[Hp2.out];exact Hpr.out,HJx.out⟩⟩
  · obtain rfl:j=l.length:=by omega
    have HJx:=hid hJm;clear hJm
    gi_wp2_with fail
    go_end0
    exact⟨⟨_,rfl⟩,.inl ⟨_,by rw[hpp.out.2,Pg],HJx.out⟩⟩
theorem Pj (n:Nat)(l:List Dm)(R:Pl)(w:World):
 CallsIn Fence.wide n Tryz.prog 42 #[.slice R.a l.length R.c] w fun e w'=>e=.returned (.func (.func 84) #[] #[.pointer (some ⟨w.heap.size,0,none⟩)])/\
  w'=w.alloc (.cells #[.slice R.a l.length R.c] 31):=by
 refine callsIn_of_wp Tryz.func42 rfl trivial ?_ rfl;simp only[Tryz.ntmps42,Nat.reduceAdd,Nat.reduceSub,Yn]
 gi_wp2
 go_ret
 exact⟨rfl,rfl⟩
end
section
open Go.RowKit Go.Shelf
attribute [local go_sem] Ad Ag Ah Ac Aj Ai
def svN (l ms:List Dm)(e:Int)(i:Nat):Pn×Int:=(ms.take i).foldl (Im.saveStep l) (Pn.none,e)
theorem OB (l:List Dm){ms:List Dm}(e:Int){i:Nat}(h:i<ms.length):svN l ms e (i+1)=Im.saveStep l (svN l ms e i) ms[i]:=by
 unfold svN;rw[List.take_succ_eq_append_getElem h,List.foldl_append];rfl
theorem OA (l ms:List Dm)(e:Int):svN l ms e ms.length=Im.saveAll l ms e:=by
 unfold svN Im.saveAll;rw[List.take_length]
theorem N4 {X:Pn×Int}(h:X.1.Fit)(l:List Dm)(m:Dm):(Im.saveStep l X m).1.Fit:=by
 unfold Im.saveStep
 split
 · exact h
 split
 · exact h
 · exact Pn.dmSet_fit h _ _
theorem G8 (l:List Dm):∀(ms:List Dm)(X:Pn×Int),X.1.Fit->(ms.foldl (Im.saveStep l) X).1.Fit
 |[],_,h=>h
 |m::ms,X,h=>G8 l ms _ (N4 h l m)
theorem IsMs.off2 {w:World}{l:List Dm}{r:Pl}(h:IsMs w l r){g:Nat}(ho:MsOff g l r)(u v:Value):IsMs ((w.setCell ⟨g,0,none⟩ u).setCell ⟨g,1,none⟩ v) l r:=
 (h.off (a:=⟨g,0,none⟩) ho u).off (a:=⟨g,1,none⟩) ho v
theorem IG (x:Im)(p q r:Pl)(w:World)(hI:IsIm w x p q r)(ok:x.Ok):
 Calls Tryz.prog 14 #[imval x p q r] w fun e w'=>RetIm w.heap.size x p q r x.bmSave e w'/\Below w.heap.size w w':=by
 have hmp:=fun(W:World)(hb:Below w.heap.size w W)=>CA x.d Pn.none p q ⟨none,0⟩ ⟨none,0⟩ W (hI.d.below hb) (AQ _) ok.d Pn.none_fit
 have hml:=CY x.d Pn.none;have Hap:=hid (fun g (hg:w.heap.size<=g)=>hI.apart hg);have HC:=hid (show x.bmSave=if x.br=true then(x,24)else if(Im.saveAll (Pn.maps x.d Pn.none).1 x.maps (Pn.maps x.d Pn.none).2).2≠0 then(x,(Im.saveAll (Pn.maps x.d Pn.none).1 x.maps (Pn.maps x.d Pn.none).2).2)
  else if(x.done (Im.saveAll (Pn.maps x.d Pn.none).1 x.maps (Pn.maps x.d Pn.none).2).1).2≠0 then x.done (Im.saveAll (Pn.maps x.d Pn.none).1 x.maps (Pn.maps x.d Pn.none).2).1
  else Im.flushed (x.done (Im.saveAll (Pn.maps x.d Pn.none).1 x.maps (Pn.maps x.d Pn.none).2).1).1 from rfl)
 have hmls:=ok.maps;have H64:=hid hI.m.bits;have Hnm:=hid hI.m.name;generalize Pn.maps x.d Pn.none=MM at*;obtain⟨l,e1⟩:=MM;simp only at hmp hml HC;have Hna:=hid (fun(W:World)(R:Pl)(i:IsMs W l R)(nm:List UInt8)(hnm:nm.length<=maxLen)=>Cl l R nm hnm W i);have Hkr:=hid (fun(nm:List UInt8)=>Co l nm);have Hst:=hid (fun(W:World)(L:Pn)(p q:Pl)(i:IsPn W L p q)(h:L.Fit)(k:Int)(hk:okInt k)(m:Dm)(h64:m.bits.length=64)(hnm:m.name.length<=maxLen)=>Eu L p q W i (by have:=h.2.1;omega) h.1 k m h64 hnm hk);have Hall:=hid (OA l x.maps e1);have Hnext:=hid (fun i (h:i<x.maps.length)=>OB l e1 h);have Hfit:=hid (fun i=>show(svN l x.maps e1 i).1.Fit from G8 l _ _ Pn.none_fit);have Hdn:=hid (fun(W:World)(L:Pn)(p' q':Pl)(hb:Below w.heap.size w W)(i:IsPn W L p' q')(hf:L.Fit)=>DJ x L p q r p' q' W (hI.below hb) i ok hf);have Hdok:=hid (fun(L:Pn)=>(ok.done L).1);obtain⟨hd,hm⟩:=hI;clear ok;obtain⟨D,g,h,⟨seq,pos⟩,maps,br⟩:=x;simp only at hd hm hmp hmls Hap HC H64 Hnm Hall Hnext Hfit;obtain⟨A1,a1⟩:=p;obtain⟨A2,a2⟩:=q;obtain⟨A3,a3⟩:=r;have a36:=Tryz.dm_agg;have z36:=Tryz.dm_siz;have zc:=Tryz.dm_zeros;have or0:=Hap.out (w.heap.size+1) (by omega);have ord:=or0.1;have orm:=or0.2;have ox0:=Hap.out w.heap.size (Nat.le_refl _);have oxd:=ox0.1;have oxm:=ox0.2;cases br with
 |true=>
  have Hr:=hid (HC.out.trans (if_pos rfl));clear HC hmp hml H64 Hnm Hna Hkr Hst Hall Hnext Hfit Hdn zc a36 z36;have hB:=Below.refl w.heap.size w;have x:=Blk.new w 33 #[.string (bs D.data),.slice A1 D.cache.length a1,.int .i64 D.fuse,.bool D.off,.slice A2 D.bad.length a2,.int .i64 g,.int .i64 h,.int .u64 seq,.int .i64 pos,.slice A3 maps.length a3,.bool true];have xk:=Aa x;have hB_1:=Ya hB x;have hd_2:=hd.below (Yb hB_1);have hm_3:=hm.below (Yb hB_1);have r:=Yd hB_1 33 #[.string (bs D.data),.slice A1 D.cache.length a1,.int .i64 D.fuse,.bool D.off,.slice A2 D.bad.length a2,.int .i64 g,.int .i64 h,.int .u64 seq,.int .i64 pos,.slice A3 maps.length a3,.bool true];simp only[Ys]at r;have rk:=Aa r;have hB_4:=Ya hB_1 r;have hd_5:=hd_2.below (Yb hB_4);have hm_6:=hm_3.below (Yb hB_4);have x_7:=Yc x hB_4;have xk_7:=Aa x_7;have yy:=rk;have bw:=hB_4;have dw:=hd_5;have mw:=hm_6;go_enter Tryz.func14,Tryz.ntmps14;go_wp2_with fail
  refine bodyPost_ret (v:=.tuple #[imval ⟨D,g,h,⟨seq,pos⟩,maps,true⟩ ⟨A1,a1⟩ ⟨A2,a2⟩ ⟨A3,a3⟩,.int .i64 24]) (by simp[results,Tryz.results14,go_sem,yy]) rfl ?_;rw[Hr.out];exact⟨⟨⟨A1,a1⟩,⟨A2,a2⟩,⟨A3,a3⟩,rfl,⟨dw,mw⟩,fun _ _ h=>h⟩,bw⟩
 |false=>
  have hB:=Below.refl w.heap.size w;have x:=Blk.new w 33 #[.string (bs D.data),.slice A1 D.cache.length a1,.int .i64 D.fuse,.bool D.off,.slice A2 D.bad.length a2,.int .i64 g,.int .i64 h,.int .u64 seq,.int .i64 pos,.slice A3 maps.length a3,.bool false];have xk:=Aa x;have xkf:=x.fz;have hB_1:=Ya hB x;have hd_2:=hd.below (Yb hB_1);have hm_3:=hm.below (Yb hB_1);have r:=Yd hB_1 33 #[.string (bs []),.slice none 0 0,.int .i64 0,.bool false,.slice none 0 0,.int .i64 0,.int .i64 0,.int .u64 0,.int .i64 0,.slice none 0 0,.bool false];simp only[Ys]at r;have rk:=Aa r;have rkf:=r.fz;have hB_4:=Ya hB_1 r;have hd_5:=hd_2.below (Yb hB_4);have hm_6:=hm_3.below (Yb hB_4);have x_7:=Yc x hB_4;have xk_7:=Aa x_7;have xkf_7:=x_7.fz;go_enter Tryz.func14,Tryz.ntmps14;go_wp2_with fail
  go_at_call 28;refine((hmp _ hB_4)).mono ?_;rintro e w1 ⟨⟨v,rfl,hv⟩,hb1⟩;replace hB:=bt hB_4 hb1;replace hd:=hd_5.below hb1;replace hm:=hm_6.below hb1;replace x:=x_7.below hb1 x_7.lt;replace xk:=Aa x;replace xkf:=x.fz;replace r:=r.below hb1 r.lt;replace rk:=Aa r;replace rkf:=r.fz;clear hB_1 hd_2 hm_3 hB_4 hd_5 hm_6 xk_7 xkf_7 x_7;have hrl1:=hid (r.lt);obtain⟨AL,cl,rfl,_,_,_⟩:=Az hv;have iL:=IsMs.of_own rfl hv hml.2.1 hml.2.2;clear hv hmp;have apd:=(hd).apart (Nat.le_refl w1.heap.size);have apm:=(hm).apart (Nat.le_refl w1.heap.size);have apl:=iL.apart (Nat.le_refl w1.heap.size);have pl:=Blk.new w1 63 #[.slice none 0 0,.slice none 0 0];have plk:=blk2 pl;have plkf:=pl.fz;have hB_8:=Ya hB pl;have hd_9:=hd.below (Yb hB_8);have hm_10:=hm.below (Yb hB_8);have x_11:=Yc x hB_8;have xk_11:=Aa x_11;have r_12:=Yc r hB_8;have iL_13:=iL.below (Yb hB_8);go_wp2_with fail
  go_loopw [5,23] (fun s5 s23 W=>∃(i:Nat)(X:Pn×Int)(P Q:Pl),i<=maps.length/\s23=.int .i64 i/\s5=.int .i64 X.2/\Hid (svN l maps e1 i=X)/\Blk W w.heap.size 33 #[.string (bs D.data),.slice A1 D.cache.length a1,.int .i64 D.fuse,.bool D.off,.slice A2 D.bad.length a2,.int .i64 g,.int .i64 h,.int .u64 seq,.int .i64 pos,.slice A3 maps.length a3,.bool false]/\Blk W (w.heap.size+1) 33 #[.string (bs []),.slice none 0 0,.int .i64 0,.bool false,.slice none 0 0,.int .i64 0,.int .i64 0,.int .u64 0,.int .i64 0,.slice none 0 0,.bool false]/\Blk W w1.heap.size 63 #[.slice P.a X.1.targets.length P.c,.slice Q.a X.1.data.length Q.c]/\IsDk W D ⟨A1,a1⟩ ⟨A2,a2⟩/\IsMs W maps ⟨A3,a3⟩/\IsMs W l ⟨AL,cl⟩/\IsPn W X.1 P Q/\PnOff w1.heap.size X.1 P Q/\Below w.heap.size w W) (fun _ x _=>maps.length-(intOf x).toNat)
  case atStart=>exact⟨0,(Pn.none,e1),⟨none,0⟩,⟨none,0⟩,Nat.zero_le _,rfl,rfl,hid rfl,x_11,r_12,pl,hd_9,hm_10,iL_13,AQ _,⟨.inl rfl,.inl rfl⟩,hB_8⟩
  case round=>
   clear x_11 xk_11 r_12 pl plk hd_9 hm_10 iL_13 hB_8 xkf rkf plkf;obtain⟨i,⟨Lp,e⟩,⟨P1,c1⟩,⟨Q1,d1⟩,hi,rfl,rfl,HN,x,r,pl,hd,hm,iL,ip,op,hB⟩:=hrel;simp only at pl ip op;have xk:=Aa x;have xkf:=x.fz;have rk:=Aa r;have rkf:=r.fz;have plk:=blk2 pl;have plkf:=pl.fz;have hpl:=pl.lt;have hr9:=hrl1.out;by_cases hlt:i<maps.length
   · obtain⟨gb,go,ea,hgb,hcs⟩:=hm.rows (by omega);have ea':A3=some ⟨gb,go,none⟩:=ea;subst ea';have h64:=H64.out _ (List.getElem_mem hlt);have hnl:=Hnm.out _ (List.getElem_mem hlt);have k1:=Tryz.dm_load maps[i] h64 (hcs i hlt);have Hn:=hid (Hnext.out i hlt);obtain⟨m,hmm⟩:∃m,maps[i]=m:=⟨_,rfl⟩;rw[hmm]at h64 hnl k1 Hn;replace Hn:=hid (Hn.out.trans (congrArg (fun X=>Im.saveStep l X m) HN.out));have hLf:Lp.Fit:=by have:=Hfit.out i;rw[HN.out]at this;exact this
     replace hLf:=hid hLf;have lM:=AU h64;clear hmm hcs HN;have Hi1:=hid (show i+1<=maps.length from hlt);have odv:=(hd).apart (Nat.le_refl wr.heap.size);have omv:=(hm).apart (Nat.le_refl wr.heap.size);have olv:=(iL).apart (Nat.le_refl wr.heap.size);have opv:=(ip).apart (Nat.le_refl wr.heap.size);have v:=Blk.new wr 42 (dmCells Dm.zero).toArray;have vk:=Tryz.dm_all Dm.zero rfl v;have vkf:=v.fz;have hB_1:=hB.alloc hB.size (.cells (dmCells Dm.zero).toArray 42);have hd_2:=hd.below (Yb hB_1);have hm_3:=hm.below (Yb hB_1);have iL_4:=iL.below (Yb hB_1);have ip_5:=ip.below (Yb hB_1);have x_6:=Yc x hB_1;have r_7:=Yc r hB_1;have pl_8:=Yc pl hB_1;have s0:=Tryz.dm_put (a:=Dm.zero) m h64 rfl v;have hB_9:=AM hB_1 (g:=wr.heap.size) (by omega) m;have hd_10:=hd_2.offD (g:=wr.heap.size) (by first|assumption|omega) m;have hm_11:=hm_3.offD (g:=wr.heap.size) (by first|assumption|omega) m;have iL_12:=iL_4.offD (g:=wr.heap.size) (by first|assumption|omega) m;have ip_13:=ip_5.offD (g:=wr.heap.size) (by first|assumption|omega) m;have x_14:=AK x_6 (g:=wr.heap.size) (by omega) m;have r_15:=AK r_7 (g:=wr.heap.size) (by omega) m;have pl_16:=AK pl_8 (g:=wr.heap.size) (by omega) m;have v_17:=AN v m rfl h64;have vk_17:=Tryz.dm_all m h64 v_17;go_wp2_with fail
     go_at_call 27;refine((Hna.out _ _ iL_12 m.name hnl)).mono ?_;rintro e w3 ⟨rfl,hb3⟩;replace hB:=bt hB_9 hb3;replace hd:=hd_10.below hb3;replace hm:=hm_11.below hb3;replace iL:=iL_12.below hb3;replace ip:=ip_13.below hb3;replace x:=x_14.below hb3 x_14.lt;replace xk:=Aa x;replace xkf:=x.fz;replace r:=r_15.below hb3 r_15.lt;replace rk:=Aa r;replace rkf:=r.fz;replace pl:=pl_16.below hb3 pl_16.lt;replace plk:=blk2 pl;replace plkf:=pl.fz;replace v:=v_17.below hb3 v_17.lt;replace vk:=Tryz.dm_all m h64 v;replace vkf:=v.fz;clear hB_1 hd_2 hm_3 iL_4 ip_5 x_6 r_7 pl_8 hB_9 hd_10 hm_11 iL_12 ip_13 x_14 r_15 pl_16 vk_17 v_17;have hkr:=Hkr.out m.name;have hst0:Im.saveStep l (Lp,e) m=if e≠0 then(Lp,e)else if dmFind l m.name<0 then(Lp,21)else Pn.dmSet Lp (dmFind l m.name) {m with use:=false}:=rfl
     replace Hn:=hid (Hn.out.trans hst0);clear hst0 s0 k1;generalize dmFind l m.name=k at*;by_cases he:e=0
     rotate_left
     · have n1:(e==0)=false:=beq_eq_false_iff_ne.2 he;have Hr:=hid (Hn.out.trans (if_pos he));clear Hn he;go_wp2_with fail
       go_roundw
       case rel=>exact⟨i+1,(Lp,e),⟨P1,c1⟩,⟨Q1,d1⟩,Hi1.out,by go_num,rfl,Hr,x,r,pl,hd,hm,iL,ip,op,hB⟩
       case measure=>have:=Hi1.out;simp[intOf];omega
     subst he;by_cases hk:k<0
     · have d0:decide (k<0)=true:=decide_eq_true hk;have Hr:=hid (Hn.out.trans ((if_neg (by simp)).trans (if_pos hk)));clear Hn hk hkr;go_wp2_with fail
       go_roundw
       case rel=>exact⟨i+1,(Lp,21),⟨P1,c1⟩,⟨Q1,d1⟩,Hi1.out,by go_num,rfl,Hr,x,r,pl,hd,hm,iL,ip,op,hB⟩
       case measure=>have:=Hi1.out;simp[intOf];omega
     have d0:decide (k<0)=false:=decide_eq_false hk;have Hr:=hid (Hn.out.trans ((if_neg (by simp)).trans (if_neg hk)));have hko:okInt k:=by have:=hml.1;unfold okInt;omega
     clear Hn hk hkr;obtain⟨M2,hM2⟩:∃M2,({m with use:=false}:Dm)=M2:=⟨_,rfl⟩;have h642:M2.bits.length=64:=by rw[<-hM2];exact h64
     have hnl2:M2.name.length<=maxLen:=by rw[<-hM2];exact hnl
     have v9:=CJ (v) false;rw[hM2]at v9 Hr;clear hM2;have vkf:=(v).fz;have hst2:=fun(W:World)(p q:Pl)(j:IsPn W Lp p q)=>Hst.out W Lp p q j hLf.out k hko M2 h642 hnl2
     have hB_18:=(hB).setCell (p:=⟨wr.heap.size,1,none⟩) (by show _<=(wr.heap.size:Nat);omega) (.bool false);have hd_19:=hd.o1 hB_18;have hm_20:=hm.o1 hB_18;have iL_21:=iL.o1 hB_18;have ip_22:=ip.o1 hB_18;have x_23:=Yx x hB_18;have r_24:=Yx r hB_18;have pl_25:=Yx pl hB_18;have plk_25:=blk2 pl_25;have v9k:=Tryz.dm_all M2 h642 v9;generalize Pn.dmSet Lp k M2=S at hst2 Hr;obtain⟨L2,e2⟩:=S
     try simp only at hst2
     have hpl3:=(pl_25).lt;go_wp2_with fail
     go_at_call 38;refine((hst2 _ _ _ ip_22)).mono ?_;rintro e w4 ⟨⟨⟨P2,c2⟩,⟨Q2,d2⟩,rfl,i2,o2⟩,hb4⟩;replace hB:=bt hB_18 hb4;replace hd:=hd_19.below hb4;replace hm:=hm_20.below hb4;replace iL:=iL_21.below hb4;replace ip:=ip_22.below hb4;replace x:=x_23.below hb4 x_23.lt;replace xk:=Aa x;replace xkf:=x.fz;replace r:=r_24.below hb4 r_24.lt;replace rk:=Aa r;replace rkf:=r.fz;replace pl:=pl_25.below hb4 pl_25.lt;replace plk:=blk2 pl;replace plkf:=pl.fz;replace v9:=v9.below hb4 v9.lt;replace v9k:=Tryz.dm_all M2 h642 v9;clear hB_18 hd_19 hm_20 iL_21 ip_22 x_23 r_24 plk_25 pl_25;have op2:=o2 w1.heap.size hpl3 op;clear o2 hst2;have hB_26:=Af hB (g:=w1.heap.size) (by omega) (.slice P2 L2.targets.length c2) (.slice Q2 L2.data.length d2);have hd_27:=hd.oa hB_26;have hm_28:=hm.oa hB_26;have iL_29:=iL.oa hB_26;have x_30:=Yk x hB_26;have r_31:=Yk r hB_26;have pl_32:=Yl pl hB_26;have i2_34:=i2.oa hB_26;go_wp2_with fail
     go_roundw
     case rel=>exact⟨i+1,(L2,e2),⟨P2,c2⟩,⟨Q2,d2⟩,Hi1.out,by go_num,rfl,Hr,x_30,r_31,pl_32,hd_27,hm_28,iL_29,i2_34,op2,hB_26⟩
     case measure=>have:=Hi1.out;simp[intOf];omega
   · obtain rfl:i=maps.length:=by omega
     have HS:=Hall.out.symm.trans HN.out;have HC2:=HC.out.trans (if_neg (by simp));rw[HS]at HC2;have hLf:Lp.Fit:=by have:=Hfit.out maps.length;rw[HN.out]at this;exact this
     simp only at HC2;replace HC2:=hid HC2;clear HC HN HS Hnext Hfit Hall Hna Hkr Hst;by_cases he:e=0
     rotate_left
     · have n1:(e !=0)=true:=bne_iff_ne.2 he;have Hr:=hid (HC2.out.trans (if_pos he));clear HC2 he Hdn hLf;have hB_1:=As hB (g:=w.heap.size+1) (by omega) (.string (bs D.data)) (.slice A1 D.cache.length a1) (.int .i64 D.fuse) (.bool D.off) (.slice A2 D.bad.length a2) (.int .i64 g) (.int .i64 h) (.int .u64 seq) (.int .i64 pos) (.slice A3 maps.length a3) (.bool false);have hd_2:=hd.oc hB_1;have hm_3:=hm.oc hB_1;have r_5:=Yh r hB_1;have yy:=Aa r_5;have bw:=hB_1;have dw:=hd_2;have mw:=hm_3;go_wp2_with fail
       refine bodyPost_ret (v:=.tuple #[imval ⟨D,g,h,⟨seq,pos⟩,maps,false⟩ ⟨A1,a1⟩ ⟨A2,a2⟩ ⟨A3,a3⟩,.int .i64 e]) (by simp[results,Tryz.results14,go_sem,yy]) rfl ?_;rw[Hr.out];exact⟨⟨⟨A1,a1⟩,⟨A2,a2⟩,⟨A3,a3⟩,rfl,⟨dw,mw⟩,fun _ _ h=>h⟩,bw⟩
     subst he;have hdn:=fun(W:World)(hb:Below w.heap.size w W)(j:IsPn W Lp ⟨P1,c1⟩ ⟨Q1,d1⟩)=>Hdn.out W Lp _ _ hb j hLf
     have okY:=Hdok.out Lp;replace HC2:=hid (HC2.out.trans (if_neg (by simp)));clear Hdn Hdok hLf;generalize Im.done ⟨D,g,h,⟨seq,pos⟩,maps,false⟩ Lp=DN at*;obtain⟨⟨F,g9,h9,⟨s9,o9⟩,m9,b9⟩,ed⟩:=DN;simp only at HC2 okY;have hfF:=okY.d;clear okY;have hrl9:=(r).lt;go_wp2_with fail
     go_at_call 39;refine((hdn _ hB ip)).mono ?_;rintro e w5 ⟨⟨⟨P5,e5⟩,⟨Q5,f5⟩,⟨R5,g5⟩,rfl,i5,o5⟩,hb5⟩;replace hB:=bt hB hb5;replace hd:=hd.below hb5;replace hm:=hm.below hb5;replace iL:=iL.below hb5;replace ip:=ip.below hb5;replace x:=x.below hb5 x.lt;replace xk:=Aa x;replace xkf:=x.fz;replace r:=r.below hb5 r.lt;replace rk:=Aa r;replace rkf:=r.fz;replace pl:=pl.below hb5 pl.lt;replace plk:=blk2 pl;replace plkf:=pl.fz;have or5:=o5 (w.heap.size+1) (by omega) ⟨ord,orm⟩;have orF:=or5.1;have orM:=or5.2;have ox5:=o5 w.heap.size (by omega) ⟨oxd,oxm⟩;have oxF:=ox5.1;have oxM:=ox5.2;have O5:=hid (fun g' (h1:g'<w.heap.size) h2=>o5 g' (by omega) h2);have i5d:=i5.d;have i5m:=i5.m;clear o5 i5 or5 ox5 hdn;have hx5:=(x).lt;have hr5:=(r).lt;have hB_1:=As hB (g:=w.heap.size) (by omega) (.string (bs F.data)) (.slice P5 F.cache.length e5) (.int .i64 F.fuse) (.bool F.off) (.slice Q5 F.bad.length f5) (.int .i64 g9) (.int .i64 h9) (.int .u64 s9) (.int .i64 o9) (.slice R5 m9.length g5) (.bool b9);have x_2:=Yh x hB_1;have xk_2:=Aa x_2;have r_3:=Yg r hB_1;have rk_3:=Aa r_3;have rkf_3:=r_3.fz;have i5d_4:=i5d.oc hB_1;have i5m_5:=i5m.oc hB_1;by_cases he:ed=0
     rotate_left
     · have n1:(ed !=0)=true:=bne_iff_ne.2 he;have Hr:=hid (HC2.out.trans (if_pos he));clear HC2 he;have hB_6:=As hB_1 (g:=w.heap.size+1) (by omega) (.string (bs F.data)) (.slice P5 F.cache.length e5) (.int .i64 F.fuse) (.bool F.off) (.slice Q5 F.bad.length f5) (.int .i64 g9) (.int .i64 h9) (.int .u64 s9) (.int .i64 o9) (.slice R5 m9.length g5) (.bool b9);have x_7:=Yg x_2 hB_6;have xk_7:=Aa x_7;have xkf_7:=x_7.fz;have r_8:=Yh r_3 hB_6;have i5d_9:=i5d_4.oc hB_6;have i5m_10:=i5m_5.oc hB_6;have yy:=Aa r_8;have bw:=hB_6;have dw:=i5d_9;have mw:=i5m_10;go_wp2_with fail
       refine bodyPost_ret (v:=.tuple #[imval ⟨F,g9,h9,⟨s9,o9⟩,m9,b9⟩ ⟨P5,e5⟩ ⟨Q5,f5⟩ ⟨R5,g5⟩,.int .i64 ed]) (by simp[results,Tryz.results14,go_sem,yy]) rfl ?_;rw[Hr.out];exact⟨⟨⟨P5,e5⟩,⟨Q5,f5⟩,⟨R5,g5⟩,rfl,⟨dw,mw⟩,O5.out⟩,bw⟩
     subst he;replace HC2:=hid (HC2.out.trans (if_neg (by simp)));have HF:=hid (show Im.flushed ⟨F,g9,h9,⟨s9,o9⟩,m9,b9⟩=if(Dk.flush F).2≠0 then(⟨(Dk.flush F).1,g9,h9,⟨s9,o9⟩,m9,true⟩,(Dk.flush F).2)else(⟨(Dk.flush F).1,g9,h9,⟨s9,o9⟩,[],b9⟩,0)from rfl);have hfl:=fun(W:World)(j:IsDk W F ⟨P5,e5⟩ ⟨Q5,f5⟩)=>Fk F _ _ W j hfF
     replace HC2:=hid (HC2.out.trans HF.out);clear HF hfF;generalize Dk.flush F=FF at*;obtain⟨E,ef⟩:=FF;simp only at hfl HC2;go_wp2_with fail
     go_at_call 40;refine((hfl _ i5d_4)).mono ?_;rintro e w6 ⟨⟨⟨P6,e6⟩,⟨Q6,f6⟩,rfl,i6,o6⟩,hb6⟩;replace hB:=bt hB_1 hb6;replace x:=x_2.below hb6 x_2.lt;replace xk:=Aa x;replace xkf:=x.fz;replace r:=r_3.below hb6 r_3.lt;replace rk:=Aa r;replace rkf:=r.fz;replace i5d:=i5d_4.below hb6;replace i5m:=i5m_5.below hb6;clear hB_1 xk_2 x_2 rk_3 rkf_3 r_3 i5d_4 i5m_5
     skip
     have oxE:=o6 w.heap.size (by simp only[World.size_setCell];omega) oxF;have orE:=o6 (w.heap.size+1) (by simp only[World.size_setCell];omega) orF;have O6:=hid (fun g' (h1:g'<w.heap.size)(h2:DkOff g' F ⟨P5,e5⟩ ⟨Q5,f5⟩)=>o6 g' (by simp only[World.size_setCell];omega) h2);clear o6 hfl;have hB_6:=(((((hB).setCell (p:=⟨w.heap.size,0,none⟩) (by show _<=(w.heap.size:Nat);omega) (.string (bs E.data))).setCell (p:=⟨w.heap.size,1,none⟩) (by show _<=(w.heap.size:Nat);omega) (.slice P6 E.cache.length e6)).setCell (p:=⟨w.heap.size,2,none⟩) (by show _<=(w.heap.size:Nat);omega) (.int .i64 E.fuse)).setCell (p:=⟨w.heap.size,3,none⟩) (by show _<=(w.heap.size:Nat);omega) (.bool E.off)).setCell (p:=⟨w.heap.size,4,none⟩) (by show _<=(w.heap.size:Nat);omega) (.slice Q6 E.bad.length f6);have x_7:=(((((x).set 0 (.string (bs E.data))).set 1 (.slice P6 E.cache.length e6)).set 2 (.int .i64 E.fuse)).set 3 (.bool E.off)).set 4 (.slice Q6 E.bad.length f6);simp only[Ye]at x_7;have xk_7:=Aa x_7;have xkf_7:=x_7.fz;have r_8:=Yi r hB_6;have i5m_9:=i5m.ob hB_6;have i6_10:=i6.ob hB_6;by_cases he:ef=0
     rotate_left
     · have n1:(ef !=0)=true:=bne_iff_ne.2 he;have Hr:=hid (HC2.out.trans (if_pos he));clear HC2 he;have hB_11:=(hB_6).setCell (p:=⟨w.heap.size,10,none⟩) (by show _<=(w.heap.size:Nat);omega) (.bool true);have x_12:=(x_7).set 10 (.bool true);simp only[Ye]at x_12;have xk_12:=Aa x_12;have r_13:=Yx r_8 hB_11;have rk_13:=Aa r_13;have rkf_13:=r_13.fz;have i5m_14:=i5m_9.o1 hB_11;have i6_15:=i6_10.o1 hB_11;have hB_16:=As hB_11 (g:=w.heap.size+1) (by omega) (.string (bs E.data)) (.slice P6 E.cache.length e6) (.int .i64 E.fuse) (.bool E.off) (.slice Q6 E.bad.length f6) (.int .i64 g9) (.int .i64 h9) (.int .u64 s9) (.int .i64 o9) (.slice R5 m9.length g5) (.bool true);have r_18:=Yh r_13 hB_16;have i5m_19:=i5m_14.oc hB_16;have i6_20:=i6_15.oc hB_16;have yy:=Aa r_18;have bw:=hB_16;have dw:=i6_20;have mw:=i5m_19;go_wp2_with fail
       refine bodyPost_ret (v:=.tuple #[imval ⟨E,g9,h9,⟨s9,o9⟩,m9,true⟩ ⟨P6,e6⟩ ⟨Q6,f6⟩ ⟨R5,g5⟩,.int .i64 ef]) (by simp[results,Tryz.results14,go_sem,yy]) rfl ?_;rw[Hr.out];exact⟨⟨⟨P6,e6⟩,⟨Q6,f6⟩,⟨R5,g5⟩,rfl,⟨dw,mw⟩,fun g' h1 h2=>⟨O6.out g' h1 (O5.out g' h1 h2).1,(O5.out g' h1 h2).2⟩⟩,bw⟩
     subst he;have Hr:=hid (HC2.out.trans (if_neg (by simp)));clear HC2;have hB_11:=(hB_6).setCell (p:=⟨w.heap.size,9,none⟩) (by show _<=(w.heap.size:Nat);omega) (.slice none 0 0);have x_12:=(x_7).set 9 (.slice none 0 0);simp only[Ye]at x_12;have xk_12:=Aa x_12;have r_13:=Yx r_8 hB_11;have rk_13:=Aa r_13;have rkf_13:=r_13.fz;have i6_14:=i6_10.o1 hB_11;have hB_15:=As hB_11 (g:=w.heap.size+1) (by omega) (.string (bs E.data)) (.slice P6 E.cache.length e6) (.int .i64 E.fuse) (.bool E.off) (.slice Q6 E.bad.length f6) (.int .i64 g9) (.int .i64 h9) (.int .u64 s9) (.int .i64 o9) (.slice none 0 0) (.bool b9);have r_17:=Yh r_13 hB_15;have i6_18:=i6_14.oc hB_15;have yy:=Aa r_17;have bw:=hB_15;have dw:=i6_18;go_wp2_with fail
     refine bodyPost_ret (v:=.tuple #[imval ⟨E,g9,h9,⟨s9,o9⟩,[],b9⟩ ⟨P6,e6⟩ ⟨Q6,f6⟩ ⟨none,0⟩,.int .i64 0]) (by simp[results,Tryz.results14,go_sem,yy]) rfl ?_;rw[Hr.out];exact⟨⟨⟨P6,e6⟩,⟨Q6,f6⟩,⟨none,0⟩,rfl,⟨dw,D6 _⟩,fun g' h1 h2=>⟨O6.out g' h1 (O5.out g' h1 h2).1,Lx _ _⟩⟩,bw⟩
end
section
open Go.RowKit Go.Shelf
theorem Lm {p:Nat×Dm}(h:p.2.name=[])(X:(Pn×List Dm)×Int):Im.loadStep X p=X:=by
 unfold Im.loadStep;rw[if_pos h]
 split<;>rfl
theorem Ln {X:(Pn×List Dm)×Int}(h:X.2≠0)(p:Nat×Dm):Im.loadStep X p=X:=if_pos h
theorem Ea:∀(N:List (Nat×Dm))(X:(Pn×List Dm)×Int),N.foldl Im.loadStep X=(N.filter fun p=>decide (p.2.name≠[])).foldl Im.loadStep X
 |[],_=>rfl
 |p::N,X=>by
  by_cases h:p.2.name=[]
  · rw[List.foldl_cons,Lm h,List.filter_cons_of_neg (by simpa using h),Ea N X]
  · rw[List.foldl_cons,List.filter_cons_of_pos (by simpa using h),List.foldl_cons,Ea N _]
theorem FX (l:List Dm):Im.loadAll l=(thereL l).foldl Im.loadStep ((Pn.none,[]),0):=Ea _ _
def ldN (Z:List (Nat×Dm))(pre:List (Fin Z.length)):(Pn×List Dm)×Int:=(picked Z pre).foldl Im.loadStep ((Pn.none,[]),0)
theorem Li (Z:List (Nat×Dm))(pre:List (Fin Z.length))(i:Fin Z.length):ldN Z (pre++[i])=Im.loadStep (ldN Z pre) Z[i.val]:=by
 unfold ldN;rw[BB,List.foldl_append];rfl
theorem FY:∀(r:List (Nat×Dm))(X:(Pn×List Dm)×Int),X.2≠0->r.foldl Im.loadStep X=X
 |[],_,_=>rfl
 |p::r,X,h=>by rw[List.foldl_cons,Ln h,FY r X h]
theorem Lj (Z:List (Nat×Dm))(pre:List (Fin Z.length)){r:List (Nat×Dm)}(h:Z=picked Z pre++r)(he:(ldN Z pre).2≠0):Z.foldl Im.loadStep ((Pn.none,[]),0)=ldN Z pre:=by
 have h1:=congrArg (fun z=>z.foldl Im.loadStep ((Pn.none,[]),0)) h;refine h1.trans ?_;show(picked Z pre++r).foldl Im.loadStep _=_;rw[List.foldl_append];exact FY r _ he
theorem Fp {m:Dm}(h:m.bits.length=64):(Im.dmLoaded m).bits.length=64:=by
 unfold Im.dmLoaded
 split
 · simp
 · exact h
theorem JU (m:Dm):(Im.dmLoaded m).name=m.name:=by
 unfold Im.dmLoaded
 split<;>rfl
structure LdOk (X:Pn×List Dm) (n:Nat):Prop where
 fit:X.1.Fit
 len:X.2.length<=n
 bits:∀m∈X.2,m.bits.length=64
 name:∀m∈X.2,m.name.length<=maxLen
theorem LdOk.more {L:Pn}{ms:List Dm}{n:Nat}(h:LdOk (L,ms) n){L':Pn}(hf:L'.Fit){m:Dm}(h64:m.bits.length=64)(hn:m.name.length<=maxLen):LdOk (L',ms++[Im.dmLoaded m]) (n+1):=
 ⟨hf,by have:=h.len;simp at this ⊢;exact this,fun o ho=>by
  rcases List.mem_append.1 ho with h1|h1
  · exact h.bits o h1
  · rw[List.mem_singleton.1 h1];exact Fp h64,fun o ho=>by
  rcases List.mem_append.1 ho with h1|h1
  · exact h.name o h1
  · rw[List.mem_singleton.1 h1,JU];exact hn⟩
theorem Ll {X:(Pn×List Dm)×Int}{n:Nat}(h:LdOk X.1 n){p:Nat×Dm}(h64:p.2.bits.length=64)(hn:p.2.name.length<=maxLen):LdOk (Im.loadStep X p).1 (n+1):=by
 have h':LdOk X.1 (n+1):=⟨h.fit,Nat.le_succ_of_le h.len,h.bits,h.name⟩;obtain⟨⟨L,ms⟩,e⟩:=X;unfold Im.loadStep
 split
 · exact h'
 split
 · exact h'
 split
 · exact h.more h.fit h64 hn
 split
 · exact h'
 · exact h.more (Pn.dmSet_fit h.fit _ _) h64 hn
theorem FV (Z:List (Nat×Dm))(hZ:∀p∈Z,p.2.bits.length=64/\p.2.name.length<=maxLen):∀pre:List (Fin Z.length),LdOk (ldN Z pre).1 pre.length:=by
 have key:∀(ps:List (Nat×Dm))(X:(Pn×List Dm)×Int)(n:Nat),LdOk X.1 n->(∀p∈ps,p.2.bits.length=64/\p.2.name.length<=maxLen)->LdOk (ps.foldl Im.loadStep X).1 (n+ps.length):=fun ps=>by
  induction ps with
  |nil=>intro X n h _;exact h
  |cons p ps ih=>
   intro X n h hp;rw[List.foldl_cons,List.length_cons,show n+(ps.length+1)=n+1+ps.length by omega];exact ih _ _ (Ll h (hp p (by simp)).1 (hp p (by simp)).2) (fun q hq=>hp q (by simp[hq]))
 intro pre;have:=key (picked Z pre) ((Pn.none,[]),0) 0 ⟨Pn.none_fit,Nat.le_refl _,fun _ h=>(by cases h),fun _ h=>(by cases h)⟩ (fun p hp=>by
  unfold picked at hp;obtain⟨i,_,rfl⟩:=List.mem_map.1 hp;exact hZ _ (List.getElem_mem _))
 rw[Nat.zero_add,show(picked Z pre).length=pre.length by simp[picked]]at this;exact this
structure LdSt (W:World) (BV B0:Nat) (tp te tm td:TypeId) (X:Pn×List Dm) (P Q:Pl) (v:Value):Prop where
 p:Blk W (B0+1) tp #[.slice P.a X.1.targets.length P.c,.slice Q.a X.1.data.length Q.c]
 e:Blk W B0 te #[.int .i64 0]
 m:Blk W (B0+2) tm #[v]
 own:W.ownsRow BV td 66 v X.2.length (dmRows X.2)
 pn:IsPn W X.1 P Q
 off:∀g,(g<=B0+3\/v.ownBlock=some g)->PnOff g X.1 P Q
theorem LT {W W':World}{row:Option Nat}{base:Nat}{e:TypeId}{size n:Nat}{v:Value}{xs:List Value}(h:W.ownsRow base e size v n xs)(hg:W.grownBy W' row)(hr:∀r,row=some r->∃o:Obj,W.heap[r]? =some o/\o.isCells=false):W'.ownsRow base e size v n xs:=by
 refine h.kept hg ?_
 rcases h.2 with ⟨rfl,_⟩|⟨g,cap,cur,rfl,_,hgb,_⟩
 · exact .inl rfl
 · refine .inr fun e'=>?_
   obtain⟨o,ho,hc⟩:=hr g e'.symm;rw[hgb]at ho;cases ho;cases hc
theorem LdSt.own' (B BV B0:Nat)(tp te tm td:TypeId)(X:Pn×List Dm)(P Q:Pl)(v:Value):OwnFrom B (fun(_:Unit) W=>LdSt W BV B0 tp te tm td X P Q v):=by
 rintro s Y Z row h hy hr;exact⟨(Own.from (AA _ _ (fun _:Unit=>_)) B) () Y Z row h.p hy hr,(Own.from (AA _ _ (fun _:Unit=>_)) B) () Y Z row h.e hy hr,(Own.from (AA _ _ (fun _:Unit=>_)) B) () Y Z row h.m hy hr,
  LT h.own hy (fun r e=>(hr r e).2),h.pn.kept hy (fun r e=>(hr r e).2),h.off⟩
theorem LdSt.below {W W':World}{BV B0:Nat}{tp te tm td:TypeId}{X:Pn×List Dm}{P Q:Pl}{v:Value}(h:LdSt W BV B0 tp te tm td X P Q v)(hb:Below W.heap.size W W'):LdSt W' BV B0 tp te tm td X P Q v:=
 ⟨h.p.below hb h.p.lt,h.e.below hb h.e.lt,h.m.below hb h.m.lt,AD h.own hb,h.pn.below hb,h.off⟩
theorem LdSt.grown {W W':World}{BV B0:Nat}{tp te tm td:TypeId}{X:Pn×List Dm}{P Q:Pl}{v:Value}(h:LdSt W BV B0 tp te tm td X P Q v){g:Nat}(hg:W.grownBy W' (some g))(hB:B0+3<g)(ho:PnOff g X.1 P Q)(hv:v.ownBlock≠some g):LdSt W' BV B0 tp te tm td X P Q v:=
 ⟨h.p.grown hg (by omega),h.e.grown hg (by omega),h.m.grown hg (by omega),h.own.kept hg (.inr (fun e=>hv e)),h.pn.grown hg ho,h.off⟩
theorem Le {W W':World}{g:Nat}{t:TypeId}{cs:Array Value}(hg:W.grownBy W' (some g))(hb:Blk W g t cs):KeepsOthers W W':=
 KeepsOthers.of_grownBy hg fun j o e ho=>by injection e with e;subst e;rw[show W.heap[g]? =_ from hb]at ho;cases ho;rfl
theorem D8 {W W':World}{g B:Nat}{b:Nat}(hg:W.grownBy W' (some g))(hB:B<=g)(hs:B<=W.heap.size)(hb:b≠g)(hbs:b<W.heap.size):KeepB B [b] W W':=
 ⟨DT hg hB hs,fun k hk=>by
  obtain rfl:k=b:=by simpa using hk
  exact hg.block k hbs (fun e=>by injection e with e;exact hb e)⟩
theorem ET {W:World}{g:Nat}{t:TypeId}{cs ds:Array Value}(h:Blk W g t cs)(k:Blk W g t ds):cs=ds:=by
 have:=h.symm.trans k;injection this with this
 injection this
def setTo (m:Dm)(k:Nat):Dm:={m with bits:=List.replicate k true++m.bits.drop k}
theorem Og (m:Dm):setTo m 0=m:=by simp[setTo]
theorem Of {m:Dm}{k:Nat}(h:k<m.bits.length):(setTo m k).bits.set k true=(setTo m (k+1)).bits:=by
 unfold setTo;simp only;rw[List.set_append,if_neg (by simp),List.length_replicate,Nat.sub_self,List.drop_eq_getElem_cons h,List.set_cons_zero,List.replicate_succ',List.append_assoc];rfl
theorem Od {m:Dm}(h:m.bits.length=64)(hu:m.use=true):setTo m 64=Im.dmLoaded m:=by
 unfold setTo Im.dmLoaded;rw[if_pos hu,List.drop_eq_nil_of_le (by omega),List.append_nil,hu]
theorem Oe {m:Dm}(h:m.bits.length=64){k:Nat}(hk:k<=64):(setTo m k).bits.length=64:=by
 unfold setTo;simp;omega
section
variable {F:Fence} {n:Nat} {P:Program}
theorem H8 {w w':World}{ops:Array Oper}{rest:List Oper}{o:Oper}{a:Act}{Q:Exit->Act->World->Prop}{t:TypeId}{k:Nat}{xs:Array (Nat×Operand)}(hg:o.guard=none)(ho:o.op=.buildSlice t k xs)(v:Value)(hr:(execOp a.eval o).run P w=.ok (.value v) w')
 (h:wpListIn F n P ops Q rest (a.put o.dst v) w'):wpListIn F n P ops Q (o::rest) a w:=by
 refine wpListIn_plain hg fun K hK'=>?_
 unfold Oper.wpIn;refine⟨fun f hf=>by simp[Oper.about,ho]at hf,?_⟩;rw[Oper.semAt_plain F _ _ (by rw[ho];intro c hc';cases hc'),hr];exact hK' _ _ h
end
end
end Go.Proofs.YtmiilfnchfdfcaaGreatDoor
