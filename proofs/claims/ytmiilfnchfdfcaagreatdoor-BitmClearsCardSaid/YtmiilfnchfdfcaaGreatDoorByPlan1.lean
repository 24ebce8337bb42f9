/- By: Ref01, Plan1. -/
import Derived.Test.YtmiilfnchfdfcaaGreatDoorByRegs
import Derived.Test.YtmiilfnchfdfcaaGreatDoorRows
import Derived.Shelf.SlicesE.Kit
import Derived.Test.YtmiilfnchfdfcaaGreatDoorByDev4
set_option maxRecDepth 100000
set_option maxHeartbeats 40000000
set_option linter.unusedVariables false
namespace Go.Proofs.YtmiilfnchfdfcaaGreatDoor
section
open Go.RowKit Go.Shelf
attribute [local go_sem] Ad Ag Ah Ac Aj Ai
theorem BG (D:Dk)(p q:Pl)(h:D.data.length<=140737488355328)(w:World):
 Calls Tryz.prog 45 #[dval D p q] w fun e w'=>e=.returned (.int .i64 (D.sz:Nat))/\Below w.heap.size w w':=by
 go_enter Tryz.func45,Tryz.ntmps45
 go_wp2
 go_ret
 exact⟨by simp[Dk.sz],Yz _⟩
theorem Bc (D:Dk)(p q:Pl)(h:D.data.length<=140737488355328)(k:Int)(w:World):
 Calls Tryz.prog 85 #[dval D p q,.int .i64 k] w fun e w'=>e=.returned (.bool (D.there k))/\Below w.heap.size w w':=by
 by_cases hk:0<=k
 · have hd:decide (0<=k)=true:=by simpa using hk
   go_enter Tryz.func85,Tryz.ntmps85;go_wp2_with (go_at_call 45;refine(BG D p q h _).mono ?_;rintro e w1 ⟨rfl,hb⟩)
   go_ret
   exact⟨by simp[Dk.there,hd],bt (Yz _) hb⟩
 · have hd:decide (0<=k)=false:=by simpa using hk
   go_enter Tryz.func85,Tryz.ntmps85
   go_wp2
   go_ret
   exact⟨by simp[Dk.there,hd],Yz _⟩
theorem MP (D:Dk)(p q:Pl)(h:D.data.length<=140737488355328)(hc:D.cache.length<=4398046511104)(hbad:D.sz<1\/1024<D.sz\/D.data.length%64≠0\/4096<D.cache.length)(w:World):
 Calls Tryz.prog 44 #[dval D p q] w fun e w'=>e=.returned (.bool D.fit)/\Below w.heap.size w w':=by
 have hf:D.fit=false:=by
  simp only[Dk.fit,Bool.and_eq_false_iff,decide_eq_false_iff_not];omega
 rw[hf];have hb0:=Yz (W:=w) (.cells #[.string (bs D.data),.slice p.a D.cache.length p.c,.int .i64 D.fuse,.bool D.off,.slice q.a D.bad.length q.c] 25);by_cases h1:D.sz<1
 · go_enter Tryz.func44,Tryz.ntmps44;go_wp2_with (go_at_call 45;refine(BG D p q h _).mono ?_;rintro e w1 ⟨rfl,hb⟩)
   go_ret
   exact⟨rfl,bt hb0 hb⟩
 · by_cases h2:1024<D.sz
   · go_enter Tryz.func44,Tryz.ntmps44;go_wp2_with (go_at_call 45;refine(BG D p q h _).mono ?_;rintro e w1 ⟨rfl,hb⟩)
     go_ret
     exact⟨rfl,bt hb0 hb⟩
   · by_cases h3:D.data.length%64=0
     · have h4:4096<D.cache.length:=by omega
       have h3':((D.data.length:Int)%64 !=0)=false:=by simp;omega
       have H3:=hid h3;clear h3
       go_enter Tryz.func44,Tryz.ntmps44;go_wp2_with (go_at_call 45;refine(BG D p q h _).mono ?_;rintro e w1 ⟨rfl,hb⟩;obtain⟨k0,k1,k2,k3,k4⟩:=blk5 (BN _ _ hb))
       go_ret
       exact⟨rfl,bt hb0 hb⟩
     · have h3':((D.data.length:Int)%64 !=0)=true:=by simp;omega
       clear h3;go_enter Tryz.func44,Tryz.ntmps44;go_wp2_with (go_at_call 45;refine(BG D p q h _).mono ?_;rintro e w1 ⟨rfl,hb⟩;obtain⟨k0,k1,k2,k3,k4⟩:=blk5 (BN _ _ hb))
       go_ret
       exact⟨rfl,bt hb0 hb⟩
theorem MQ (D:Dk)(p q:Pl)(w:World)(hD:IsDk w D p q)(h1:1<=D.sz)(h2:D.sz<=1024)(h3:D.data.length%64=0)(h4:D.cache.length<=4096):
 Calls Tryz.prog 44 #[dval D p q] w fun e w'=>e=.returned (.bool D.fit)/\Below w.heap.size w w':=by
 obtain⟨A1,c1⟩:=p;obtain⟨A2,c2⟩:=q;have h:=hD.data;have hbl:=hD.bl;have hb0:=Yz (W:=w) (.cells #[.string (bs D.data),.slice A1 D.cache.length c1,.int .i64 D.fuse,.bool D.off,.slice A2 D.bad.length c2] 25);have h3':((D.data.length:Int)%64 !=0)=false:=by simp;omega
 have H3:=hid h3;clear h3
 go_enter Tryz.func44,Tryz.ntmps44;go_wp2_with (go_at_call 45;refine(BG D ⟨A1,c1⟩ ⟨A2,c2⟩ h _).mono ?_;rintro e w1 ⟨rfl,hb⟩;have hbx:=BN _ _ hb;obtain⟨k0,k1,k2,k3,k4⟩:=blk5 hbx)
 replace hb:=bt hb0 hb;clear hb0 k0 k1 k2 k3 k4;go_loopw [4] (fun x W=>∃i:Nat,i<=D.cache.length/\x=.int .i64 i/\Hid (∀j (hj:j<D.cache.length),j<i->D.putOk D.cache[j]=true)/\
  Blk W w.heap.size 25 #[.string (bs D.data),.slice A1 D.cache.length c1,.int .i64 D.fuse,.bool D.off,.slice A2 D.bad.length c2]/\Below w.heap.size w W) (fun x _=>D.cache.length-(intOf x).toNat)
 case atStart=>exact⟨0,Nat.zero_le _,rfl,hid (fun j hj h0=>by omega),hbx,hb⟩
 case round=>
  clear hbx hb;obtain⟨i,hi,rfl,hok,hbx,hb⟩:=hrel;obtain⟨k0,k1,k2,k3,k4⟩:=blk5 hbx;by_cases hlt:i<D.cache.length
  · obtain⟨pb,po,hpa,hcell⟩:=(hD.below hb).cache.put hlt;simp only at hpa;subst hpa;obtain⟨d0,d1⟩:=hcell i hlt;have Hcell:=hid hcell;clear hcell
    have hat:=hD.ats _ (List.getElem_mem hlt);have hln:=hD.strs _ (List.getElem_mem hlt);have hthere:=Bc D ⟨some ⟨pb,po,none⟩,c1⟩ ⟨A2,c2⟩ h D.cache[i].1;have K0:=fun e:Ext wr=>e.cell k0
    have K1:=fun e:Ext wr=>e.cell k1
    have K2:=fun e:Ext wr=>e.cell k2
    have K3:=fun e:Ext wr=>e.cell k3
    have K4:=fun e:Ext wr=>e.cell k4
    have C0:=fun e:Ext wr=>e.cell d0
    have C1:=fun e:Ext wr=>e.cell d1
    rcases Bool.eq_false_or_eq_true (D.there D.cache[i].1)with hth|hth
    · rw[hth]at hthere;by_cases hl:D.cache[i].2.length=64
      · have hl':((D.cache[i].2.length:Int) !=64)=false:=by simp;omega
        have Hok:=hid (show D.putOk D.cache[i]=true by simp[Dk.putOk,hth,hl]);clear hth hl;go_wp2_with fail
        refine Ay mixed (by kernel_rfl) ?_
        repeat (go_big_quiet_step ((go_at_call 85;with_reducible exact Al (hthere _))))
        refine wpQuiet_nil ?_;rintro _ ⟨⟨w2,hb2⟩,rfl⟩;go_wp2_with fail
        go_roundw
        case rel=>exact⟨i+1,by omega,by go_num,hid (fun j hj hji=>by
         rcases Nat.lt_or_ge j i with h'|h'
         · exact hok.out j hj h'
         · obtain rfl:j=i:=by omega
           exact Hok.out),hbx.below hb2 hbx.lt,bt hb hb2⟩
        case measure=>simp[intOf];omega
      · have hl':((D.cache[i].2.length:Int) !=64)=true:=by simp;omega
        have Hno:=hid (Dk.fit_no_put hlt (show D.putOk D.cache[i]=false by simp[Dk.putOk,hth,hl]));clear hth hl;go_wp2_with fail
        refine Ay mixed (by kernel_rfl) ?_
        repeat (go_big_quiet_step ((go_at_call 85;with_reducible exact Al (hthere _))))
        refine wpQuiet_nil ?_;rintro _ ⟨⟨w2,hb2⟩,rfl⟩;go_wp2_with fail
        go_ret
        exact⟨by rw[Hno.out];rfl,bt hb hb2⟩
    · rw[hth]at hthere;have Hno:=hid (Dk.fit_no_put hlt (show D.putOk D.cache[i]=false by simp[Dk.putOk,hth]));clear hth;go_wp2_with fail
      refine Ay mixed (by kernel_rfl) ?_
      repeat (go_big_quiet_step ((go_at_call 85;with_reducible exact Al (hthere _))))
      refine wpQuiet_nil ?_;rintro _ ⟨⟨w2,hb2⟩,rfl⟩;go_wp2_with fail
      go_ret
      exact⟨by rw[Hno.out];rfl,bt hb hb2⟩
  · have Hall:=hid (show∀j (hj:j<D.cache.length),D.putOk D.cache[j]=true from fun j hj=>hok.out j hj (by omega));clear hok;go_wp2_with fail
    go_loopw [5] (fun x W=>∃i:Nat,i<=D.bad.length/\x=.int .i64 i/\Hid (∀j (hj:j<D.bad.length),j<i->D.there D.bad[j]=true/\(0<j->D.bad[j-1]<D.bad[j]))/\
     Blk W w.heap.size 25 #[.string (bs D.data),.slice A1 D.cache.length c1,.int .i64 D.fuse,.bool D.off,.slice A2 D.bad.length c2]/\Below w.heap.size w W) (fun x _=>D.bad.length-(intOf x).toNat)
    case atStart=>exact⟨0,Nat.zero_le _,rfl,hid (fun j hj h0=>by omega),hbx,hb⟩
    case round=>
     clear hbx hb k0 k1 k2 k3 k4;obtain⟨k,hk,rfl,hok,hbx,hb⟩:=hrel;obtain⟨k0,k1,k2,k3,k4⟩:=blk5 hbx;by_cases hlt:k<D.bad.length
     · obtain⟨pb,po,hpa,hcell⟩:=(hD.below hb).bad.int hlt;simp only at hpa;subst hpa;have d0:=hcell k hlt;have Hcell:=hid hcell;clear hcell
       have hat:=hD.bads _ (List.getElem_mem hlt);have hthere:=Bc D ⟨A1,c1⟩ ⟨some ⟨pb,po,none⟩,c2⟩ h D.bad[k];have K0:=fun e:Ext wr=>e.cell k0
       have K1:=fun e:Ext wr=>e.cell k1
       have K2:=fun e:Ext wr=>e.cell k2
       have K3:=fun e:Ext wr=>e.cell k3
       have K4:=fun e:Ext wr=>e.cell k4
       have D0:=fun e:Ext wr=>e.cell d0
       rcases Bool.eq_false_or_eq_true (D.there D.bad[k])with hth|hth
       · rw[hth]at hthere;by_cases h0:0<k
         · have h0':decide ((0:Int)<k)=true:=by simp;omega
           have hk1:(0:Int)<=(k:Int)-1:=by omega
           have e0:=Hcell.out (k-1) (by omega);have hat0:=hD.bads _ (List.getElem_mem (show k-1<D.bad.length by omega));have E0:=fun e:Ext wr=>e.cell e0
           by_cases hl:D.bad[k]<=D.bad[k-1]
           · have hl':decide (D.bad[k]<=D.bad[k-1])=true:=by simpa using hl
             have Hno:=hid (Dk.fit_no_incr hlt h0 hl);clear hth hl;go_wp2_with fail
             refine Ay mixed (by kernel_rfl) ?_
             repeat (go_big_quiet_step ((go_at_call 85;with_reducible exact Al (hthere _))))
             refine wpQuiet_nil ?_;rintro _ ⟨⟨w2,hb2⟩,rfl⟩;go_wp2_with fail
             go_ret
             exact⟨by rw[Hno.out];rfl,bt hb hb2⟩
           · have hl':decide (D.bad[k]<=D.bad[k-1])=false:=by simpa using hl
             have Hok:=hid (show D.there D.bad[k]=true/\(0<k->D.bad[k-1]<D.bad[k])from⟨hth,fun _=>by omega⟩);clear hth hl;go_wp2_with fail
             refine Ay mixed (by kernel_rfl) ?_
             repeat (go_big_quiet_step ((go_at_call 85;with_reducible exact Al (hthere _))))
             refine wpQuiet_nil ?_;rintro _ ⟨⟨w2,hb2⟩,rfl⟩;go_wp2_with fail
             go_roundw
             case rel=>exact⟨k+1,by omega,by go_num,hid (fun j hj hji=>by
              rcases Nat.lt_or_ge j k with h'|h'
              · exact hok.out j hj h'
              · obtain rfl:j=k:=by omega
                exact Hok.out),hbx.below hb2 hbx.lt,bt hb hb2⟩
             case measure=>simp[intOf];omega
         · have h0':decide ((0:Int)<k)=false:=by simp;omega
           have Hok:=hid (show D.there D.bad[k]=true/\(0<k->D.bad[k-1]<D.bad[k])from⟨hth,fun _=>by omega⟩);clear hth;go_wp2_with fail
           refine Ay mixed (by kernel_rfl) ?_
           repeat (go_big_quiet_step ((go_at_call 85;with_reducible exact Al (hthere _))))
           refine wpQuiet_nil ?_;rintro _ ⟨⟨w2,hb2⟩,rfl⟩;go_wp2_with fail
           go_roundw
           case rel=>exact⟨k+1,by omega,by go_num,hid (fun j hj hji=>by
            rcases Nat.lt_or_ge j k with h'|h'
            · exact hok.out j hj h'
            · obtain rfl:j=k:=by omega
              exact Hok.out),hbx.below hb2 hbx.lt,bt hb hb2⟩
           case measure=>simp[intOf];omega
       · rw[hth]at hthere;have Hno:=hid (Dk.fit_no_bad hlt hth);clear hth;go_wp2_with fail
         refine Ay mixed (by kernel_rfl) ?_
         repeat (go_big_quiet_step ((go_at_call 85;with_reducible exact Al (hthere _))))
         refine wpQuiet_nil ?_;rintro _ ⟨⟨w2,hb2⟩,rfl⟩;go_wp2_with fail
         go_ret
         exact⟨by rw[Hno.out];rfl,bt hb hb2⟩
     · have hf:D.fit=true:=Dk.fit_yes h1 h2 H3.out h4 (fun j hj=>Hall.out j hj) (fun j hj=>(hok.out j hj (by omega)).1) (fun j hj h0=>(hok.out j hj (by omega)).2 h0);have Hf:=hid hf;clear hf
       clear hok;go_wp2_with fail
       go_ret
       exact⟨by rw[Hf.out];rfl,hb⟩
theorem LB (a b:Int)(s u:List UInt8)(w:World):(binOp .neq 115 (.agg #[.int .i64 a,.string (bs s)]) (.agg #[.int .i64 b,.string (bs u)])).run Tryz.prog w=.ok (.bool (!(decide (a=b)&&decide (s=u)))) w:=by
 have u3:=Tryz.underlying3;have hS:Tryz.prog.underlying 115=some (.struct (Tryz.prog.fieldsOf 115)):=by kernel_rfl
 have hp:Tryz.prog.stoodInHeld 115=false:=by kernel_rfl
 rw[run_neq_struct,show(10000:Nat)=9999+1 from rfl,run_equalIn_agg w 9999 115 _ _ hS hp];simp only[Program.fieldsOf,Tryz.underlying115];go_simp;by_cases h1:a=b<;>by_cases h2:s=u<;>simp[h1,h2]
theorem Cx (D:Dk)(p q:Pl)(w:World)(hD:IsDk w D p q)(k:Int):
 Calls Tryz.prog 101 #[dval D p q,.int .i64 k] w fun e w'=>e=.returned (.bool (decide (k∈D.bad)))/\Below w.heap.size w w':=by
 obtain⟨A1,c1⟩:=p;obtain⟨A2,c2⟩:=q;have hbl:=hD.bl;have hbx:=Blk.new w 25 #[.string (bs D.data),.slice A1 D.cache.length c1,.int .i64 D.fuse,.bool D.off,.slice A2 D.bad.length c2];have hb:=Yz (W:=w) (.cells #[.string (bs D.data),.slice A1 D.cache.length c1,.int .i64 D.fuse,.bool D.off,.slice A2 D.bad.length c2] 25);go_enter Tryz.func101,Tryz.ntmps101;go_wp2_with fail
 go_loopw [5] (fun x W=>∃i:Nat,i<=D.bad.length/\x=.int .i64 i/\Hid (∀j (hj:j<D.bad.length),j<i->D.bad[j]≠k)/\
  Blk W w.heap.size 25 #[.string (bs D.data),.slice A1 D.cache.length c1,.int .i64 D.fuse,.bool D.off,.slice A2 D.bad.length c2]/\Below w.heap.size w W) (fun x _=>D.bad.length-(intOf x).toNat)
 case atStart=>exact⟨0,Nat.zero_le _,rfl,hid (fun j hj h0=>by omega),hbx,hb⟩
 case round=>
  clear hbx hb;obtain⟨i,hi,rfl,hok,hbx,hb⟩:=hrel;have k0:=blk5 hbx;by_cases hlt:i<D.bad.length
  · obtain⟨pb,po,hpa,hcell⟩:=(hD.below hb).bad.int hlt;simp only at hpa;subst hpa;have d0:=hcell i hlt;have Hcell:=hid hcell;clear hcell
    by_cases he:D.bad[i]=k
    · have he':(D.bad[i]==k)=true:=by simpa using he
      have Hin:=hid (show decide (k∈D.bad)=true by rw[decide_eq_true_eq,<-he];exact List.getElem_mem hlt);clear he;go_wp2_with fail
      go_ret
      exact⟨by rw[Hin.out];rfl,hb⟩
    · have he':(D.bad[i]==k)=false:=by simpa using he
      have He:=hid he;clear he
      go_wp2_with fail
      go_roundw
      case rel=>exact⟨i+1,by omega,by go_num,hid (fun j hj hji=>by
       rcases Nat.lt_or_ge j i with h'|h'
       · exact hok.out j hj h'
       · obtain rfl:j=i:=by omega
         exact He.out),hbx,hb⟩
      case measure=>simp[intOf];omega
  · have Hin:=hid (show decide (k∈D.bad)=false by
     rw[decide_eq_false_iff_not];intro hm;obtain⟨j,hj,he⟩:=List.getElem_of_mem hm;exact hok.out j hj (by omega) he)
    clear hok;go_wp2_with fail
    go_ret
    exact⟨by rw[Hin.out];rfl,hb⟩
theorem M1 (D E:Dk)(p q p' q':Pl)(w:World)(hD:IsDk w D p q)(hE:IsDk w E p' q'):
 Calls Tryz.prog 24 #[dval D p q,dval E p' q'] w fun e w'=>e=.returned (.bool (D.same E))/\Below w.heap.size w w':=by
 obtain⟨A1,c1⟩:=p;obtain⟨A2,c2⟩:=q;obtain⟨B1,d1⟩:=p';obtain⟨B2,d2⟩:=q';have hcl:=hD.cl;have hbl:=hD.bl;obtain⟨data,cache,fuse,off,bad⟩:=D;obtain⟨data',cache',fuse',off',bad'⟩:=E;simp only at hcl hbl;by_cases h1:data=data'
 case neg=>
  · have Hf:=hid (Dk.same_no (D:=⟨data,cache,fuse,off,bad⟩) (E:=⟨data',cache',fuse',off',bad'⟩) (by simp[h1]));have hb:=(Yz (W:=w) (.cells #[.string (bs data),.slice A1 cache.length c1,.int .i64 fuse,.bool off,.slice A2 bad.length c2] 25)).alloc (by simp) (.cells #[.string (bs data'),.slice B1 cache'.length d1,.int .i64 fuse',.bool off',.slice B2 bad'.length d2] 25);have n0:(data==data')=false:=by simpa using h1
    clear h1;go_enter Tryz.func24,Tryz.ntmps24;go_wp2_with fail
    go_ret
    exact⟨by rw[Hf.out];rfl,hb⟩
 subst h1;have hl1:cache.length=cache'.length\/cache.length≠cache'.length:=by omega
 rcases hl1 with h2|h2
 case inr=>
  · have Hf:=hid (Dk.same_no (D:=⟨data,cache,fuse,off,bad⟩) (E:=⟨data,cache',fuse',off',bad'⟩) (by simp[h2]));have hb:=(Yz (W:=w) (.cells #[.string (bs data),.slice A1 cache.length c1,.int .i64 fuse,.bool off,.slice A2 bad.length c2] 25)).alloc (by simp) (.cells #[.string (bs data),.slice B1 cache'.length d1,.int .i64 fuse',.bool off',.slice B2 bad'.length d2] 25);have n0:((cache.length:Int) !=cache'.length)=true:=by simp;omega
    clear h2;go_enter Tryz.func24,Tryz.ntmps24;go_wp2_with fail
    go_ret
    exact⟨by rw[Hf.out];rfl,hb⟩
 have n2:((cache.length:Int) !=cache'.length)=false:=by simp;omega
 have H2:=hid h2;clear h2
 by_cases h3:fuse=fuse'
 case neg=>
  · have Hf:=hid (Dk.same_no (D:=⟨data,cache,fuse,off,bad⟩) (E:=⟨data,cache',fuse',off',bad'⟩) (by simp[h3]));have hb:=(Yz (W:=w) (.cells #[.string (bs data),.slice A1 cache.length c1,.int .i64 fuse,.bool off,.slice A2 bad.length c2] 25)).alloc (by simp) (.cells #[.string (bs data),.slice B1 cache'.length d1,.int .i64 fuse',.bool off',.slice B2 bad'.length d2] 25);have n0:(fuse !=fuse')=true:=by simpa using h3
    clear h3;go_enter Tryz.func24,Tryz.ntmps24;go_wp2_with fail
    go_ret
    exact⟨by rw[Hf.out];rfl,hb⟩
 subst h3;by_cases h4:off=off'
 case neg=>
  · have Hf:=hid (Dk.same_no (D:=⟨data,cache,fuse,off,bad⟩) (E:=⟨data,cache',fuse,off',bad'⟩) (by simp[h4]));have hb:=(Yz (W:=w) (.cells #[.string (bs data),.slice A1 cache.length c1,.int .i64 fuse,.bool off,.slice A2 bad.length c2] 25)).alloc (by simp) (.cells #[.string (bs data),.slice B1 cache'.length d1,.int .i64 fuse,.bool off',.slice B2 bad'.length d2] 25);have n0:(off==off')=false:=by simpa using h4
    clear h4;go_enter Tryz.func24,Tryz.ntmps24;go_wp2_with fail
    go_ret
    exact⟨by rw[Hf.out];rfl,hb⟩
 subst h4;have hl1:bad.length=bad'.length\/bad.length≠bad'.length:=by omega
 rcases hl1 with h5|h5
 case inr=>
  · have Hf:=hid (Dk.same_no (D:=⟨data,cache,fuse,off,bad⟩) (E:=⟨data,cache',fuse,off,bad'⟩) (by simp[h5]));have hb:=(Yz (W:=w) (.cells #[.string (bs data),.slice A1 cache.length c1,.int .i64 fuse,.bool off,.slice A2 bad.length c2] 25)).alloc (by simp) (.cells #[.string (bs data),.slice B1 cache'.length d1,.int .i64 fuse,.bool off,.slice B2 bad'.length d2] 25);have n0:((bad.length:Int) !=bad'.length)=true:=by simp;omega
    clear h5;go_enter Tryz.func24,Tryz.ntmps24;go_wp2_with fail
    go_ret
    exact⟨by rw[Hf.out];rfl,hb⟩
 have n5:((bad.length:Int) !=bad'.length)=false:=by simp;omega
 have H5:=hid h5;clear h5
 have hb:=(Yz (W:=w) (.cells #[.string (bs data),.slice A1 cache.length c1,.int .i64 fuse,.bool off,.slice A2 bad.length c2] 25)).alloc (by simp) (.cells #[.string (bs data),.slice B1 cache'.length d1,.int .i64 fuse,.bool off,.slice B2 bad'.length d2] 25);have hbx:=(Blk.new w 25 #[.string (bs data),.slice A1 cache.length c1,.int .i64 fuse,.bool off,.slice A2 bad.length c2]).alloc (.cells #[.string (bs data),.slice B1 cache'.length d1,.int .i64 fuse,.bool off,.slice B2 bad'.length d2] 25);have hby:=Blk.new (w.alloc (.cells #[.string (bs data),.slice A1 cache.length c1,.int .i64 fuse,.bool off,.slice A2 bad.length c2] 25)) 25 #[.string (bs data),.slice B1 cache'.length d1,.int .i64 fuse,.bool off,.slice B2 bad'.length d2];simp only[Ys]at hby;have hneq:=LB;go_enter Tryz.func24,Tryz.ntmps24;go_wp2_with fail
 go_loopw [5] (fun x W=>∃i:Nat,i<=cache.length/\x=.int .i64 i/\Hid (∀j (hj:j<cache.length)(hj':j<cache'.length),j<i->cache[j]=cache'[j])/\
  (Blk W w.heap.size 25 #[.string (bs data),.slice A1 cache.length c1,.int .i64 fuse,.bool off,.slice A2 bad.length c2]/\Blk W (w.heap.size+1) 25 #[.string (bs data),.slice B1 cache'.length d1,.int .i64 fuse,.bool off,.slice B2 bad'.length d2])/\Below w.heap.size w W) (fun x _=>cache.length-(intOf x).toNat)
 case atStart=>exact⟨0,Nat.zero_le _,rfl,hid (fun j hj hj' h0=>by omega),⟨hbx,hby⟩,hb⟩
 case round=>
  clear hbx hby hb;obtain⟨i,hi,rfl,hok,⟨hbx,hby⟩,hb⟩:=hrel;have k0:=blk5 hbx;have k1:=blk5 hby;have K0:=ext5 hbx;have K1:=ext5 hby;by_cases hlt:i<cache.length
  · have hlt':i<cache'.length:=by have:=H2.out;omega
    obtain⟨pb,po,hpa,hcell⟩:=(hD.below hb).cache.put hlt;obtain⟨pb',po',hpa',hcell'⟩:=(hE.below hb).cache.put hlt';simp only at hpa hpa';subst hpa;subst hpa';obtain⟨x0,x1⟩:=hcell i hlt;obtain⟨y0,y1⟩:=hcell' i hlt';have X0:=fun e:Ext wr=>e.cell x0
    have X1:=fun e:Ext wr=>e.cell x1
    have Y0:=fun e:Ext wr=>e.cell y0
    have Y1:=fun e:Ext wr=>e.cell y1
    clear hcell hcell';by_cases he:cache[i]=cache'[i]
    · have he1:decide (cache[i].1=cache'[i].1)=true:=by simp[he]
      have he2:decide (cache[i].2=cache'[i].2)=true:=by simp[he]
      have He:=hid he;clear he
      go_wp2_with fail
      refine Ay mixed (by kernel_rfl) ?_
      repeat (go_big_quiet_step ((fail)))
      refine wpQuiet_nil ?_;rintro w2 ⟨pq_,hpq_⟩;have hb2:=pq_.below;rw[<-hpq_]at hb2;clear hpq_ pq_;go_wp2_with fail
      go_roundw
      case rel=>exact⟨i+1,by omega,by go_num,hid (fun j hj hj' hji=>by
       rcases Nat.lt_or_ge j i with h'|h'
       · exact hok.out j hj hj' h'
       · obtain rfl:j=i:=by omega
         exact He.out),⟨hbx.below hb2 hbx.lt,hby.below hb2 hby.lt⟩,bt hb hb2⟩
      case measure=>simp[intOf];omega
    · have He:=hid (Dk.same_no_cache (D:=⟨data,cache,fuse,off,bad⟩) (E:=⟨data,cache',fuse,off,bad'⟩) i hlt hlt' he);have he1:(decide (cache[i].1=cache'[i].1)&&decide (cache[i].2=cache'[i].2))=false:=by
       rw[Bool.and_eq_false_iff,decide_eq_false_iff_not,decide_eq_false_iff_not];by_cases h':cache[i].1=cache'[i].1
       · exact .inr fun h''=>he (Prod.ext h' h'')
       · exact .inl h'
      clear he;go_wp2_with fail
      refine Ay mixed (by kernel_rfl) ?_
      repeat (go_big_quiet_step ((fail)))
      refine wpQuiet_nil ?_;rintro w2 ⟨pq_,hpq_⟩;have hb2:=pq_.below;rw[<-hpq_]at hb2;clear hpq_ pq_;go_wp2_with fail
      go_ret
      exact⟨by rw[He.out];rfl,bt hb hb2⟩
  · have Hall:=hid (show∀j (hj:j<cache.length)(hj':j<cache'.length),cache[j]=cache'[j]from fun j hj hj'=>hok.out j hj hj' (by omega));clear hok K0 K1 hneq;go_wp2_with fail
    go_loopw [6] (fun x W=>∃k:Nat,k<=bad.length/\x=.int .i64 k/\Hid (∀j (hj:j<bad.length)(hj':j<bad'.length),j<k->bad[j]=bad'[j])/\
     (Blk W w.heap.size 25 #[.string (bs data),.slice A1 cache.length c1,.int .i64 fuse,.bool off,.slice A2 bad.length c2]/\Blk W (w.heap.size+1) 25 #[.string (bs data),.slice B1 cache'.length d1,.int .i64 fuse,.bool off,.slice B2 bad'.length d2])/\Below w.heap.size w W) (fun x _=>bad.length-(intOf x).toNat)
    case atStart=>exact⟨0,Nat.zero_le _,rfl,hid (fun j hj hj' h0=>by omega),⟨hbx,hby⟩,hb⟩
    case round=>
     clear hbx hby hb k0 k1;obtain⟨k,hk,rfl,hok,⟨hbx,hby⟩,hb⟩:=hrel;have k0:=blk5 hbx;have k1:=blk5 hby;have K0:=ext5 hbx;have K1:=ext5 hby;by_cases hlt:k<bad.length
     · have hlt':k<bad'.length:=by have:=H5.out;omega
       obtain⟨pb,po,hpa,hcell⟩:=(hD.below hb).bad.int hlt;obtain⟨pb',po',hpa',hcell'⟩:=(hE.below hb).bad.int hlt';simp only at hpa hpa';subst hpa;subst hpa';have x0:=hcell k hlt;have y0:=hcell' k hlt';have X0:=fun e:Ext wr=>e.cell x0
       have Y0:=fun e:Ext wr=>e.cell y0
       clear hcell hcell';by_cases he:bad[k]=bad'[k]
       · have he1:(bad[k] !=bad'[k])=false:=by simp[he]
         have He:=hid he;clear he
         go_wp2_with fail
         refine Ay mixed (by kernel_rfl) ?_
         repeat (go_big_quiet_step ((fail)))
         refine wpQuiet_nil ?_;rintro w2 ⟨pq_,hpq_⟩;have hb2:=pq_.below;rw[<-hpq_]at hb2;clear hpq_ pq_;go_wp2_with fail
         go_roundw
         case rel=>exact⟨k+1,by omega,by go_num,hid (fun j hj hj' hji=>by
          rcases Nat.lt_or_ge j k with h'|h'
          · exact hok.out j hj hj' h'
          · obtain rfl:j=k:=by omega
            exact He.out),⟨hbx.below hb2 hbx.lt,hby.below hb2 hby.lt⟩,bt hb hb2⟩
         case measure=>simp[intOf];omega
       · have He:=hid (Dk.same_no_bad (D:=⟨data,cache,fuse,off,bad⟩) (E:=⟨data,cache',fuse,off,bad'⟩) k hlt hlt' he);have he1:(bad[k] !=bad'[k])=true:=by simpa using he
         clear he;go_wp2_with fail
         refine Ay mixed (by kernel_rfl) ?_
         repeat (go_big_quiet_step ((fail)))
         refine wpQuiet_nil ?_;rintro w2 ⟨pq_,hpq_⟩;have hb2:=pq_.below;rw[<-hpq_]at hb2;clear hpq_ pq_;go_wp2_with fail
         go_ret
         exact⟨by rw[He.out];rfl,bt hb hb2⟩
     · have Hb:=hid (show∀j (hj:j<bad.length)(hj':j<bad'.length),bad[j]=bad'[j]from fun j hj hj'=>hok.out j hj hj' (by omega));have Hf:=hid (Dk.same_yes (D:=⟨data,cache,fuse,off,bad⟩) (E:=⟨data,cache',fuse,off,bad'⟩) rfl H2.out rfl rfl H5.out (fun j hj hj'=>Hall.out j hj hj') (fun j hj hj'=>Hb.out j hj hj'));clear hok K0 K1;go_wp2_with fail
       go_ret
       exact⟨by rw[Hf.out];rfl,hb⟩
theorem Tryz.infoIntP:(Tryz.prog.info? 3).map (fun i=>(i.zero,i.size,i.bytes))=some (some (.int .i64 0),1,8):=by kernel_rfl
theorem EZ (A:Option Addr)(l:List Int)(c:Nat)(w:World)(hA:Cells w A (intCells l))(hl:l.length<=17592186044416)(hn:A=none->c=0):
 Calls Tryz.prog 115 #[.slice A l.length c] w fun e w'=>∃v',e=.returned v'/\w'.ownsRow w.heap.size 3 1 v' l.length (intCells l)/\Below w.heap.size w w':=by
 have q22:∀(w:World)(a:Option Addr)(n c n' c':Nat),(binOp .eql 23 (.slice a n c) (.slice none n' c')).run Tryz.prog w=.ok (.bool a.isNone) w:=fun w a n c n' c'=>Lib.run_eql_slice_nil w _ _ a n c n' c' Tryz.underlying23
 obtain⟨i0,hi,hz0,hz1,hz2⟩:=info_parts Tryz.infoIntP;cases A with
 |none=>
  have hl0:l=[]:=by
   rcases hA with h|⟨b,off,he,_⟩
   · have:=congrArg List.length h;rw[Cr]at this;exact List.length_eq_zero_iff.1 (by simpa using this)
   · cases he
  subst hl0;go_enter Tryz.func115,Tryz.ntmps115;go_wp2_with fail
  go_ret
  exact⟨_,rfl,World.ownsRow_nil _ _ _ _,Below.refl _ _⟩
 |some ad=>
  go_enter Tryz.func115,Tryz.ntmps115;go_wp2_with (at_builtin;refine A6 rfl _ _ 23 rfl w.heap.size 3 i0 (.int .i64 0) 1 8 Tryz.underlying23 hi hz0 hz1 hz2 rfl (by decide) _ 0 [] rfl (World.ownsRow_made w #[] 0 (Nat.le_refl _) (Nat.zero_le _) rfl) (some ad) l.length c (intCells l) rfl (hA.below (Yz _)) (by rw[Cr];simp) (fun h=>by cases h) (Gb _) (by unfold maxLen;omega) (by omega) (by simp) ?_;intro v1 w3 hown1 hbl1;rw[Nat.zero_add,List.nil_append]at hown1)
  go_ret
  exact⟨_,rfl,hown1,(Yz _).trans hbl1⟩
theorem Tryz.infoStrP:(Tryz.prog.info? 9).map (fun i=>(i.zero,i.size,i.bytes))=some (some (.string ⟨#[]⟩),1,16):=by kernel_rfl
theorem E5 (A:Option Addr)(l:List (List UInt8))(c:Nat)(w:World)(hA:Cells w A (strCells l))(hl:l.length<=1099511627776)(hn:A=none->c=0):
 Calls Tryz.prog 116 #[.slice A l.length c] w fun e w'=>∃v',e=.returned v'/\w'.ownsRow w.heap.size 9 1 v' l.length (strCells l)/\Below w.heap.size w w':=by
 have q22:∀(w:World)(a:Option Addr)(n c n' c':Nat),(binOp .eql 61 (.slice a n c) (.slice none n' c')).run Tryz.prog w=.ok (.bool a.isNone) w:=fun w a n c n' c'=>Lib.run_eql_slice_nil w _ _ a n c n' c' Tryz.underlying61
 obtain⟨i0,hi,hz0,hz1,hz2⟩:=info_parts Tryz.infoStrP;cases A with
 |none=>
  have hl0:l=[]:=by
   rcases hA with h|⟨b,off,he,_⟩
   · have:=congrArg List.length h;rw[strCells_length]at this;exact List.length_eq_zero_iff.1 (by simpa using this)
   · cases he
  subst hl0;go_enter Tryz.func116,Tryz.ntmps116;go_wp2_with fail
  go_ret
  exact⟨_,rfl,World.ownsRow_nil _ _ _ _,Below.refl _ _⟩
 |some ad=>
  go_enter Tryz.func116,Tryz.ntmps116;go_wp2_with (at_builtin;refine A6 rfl _ _ 61 rfl w.heap.size 9 i0 (.string ⟨#[]⟩) 1 16 Tryz.underlying61 hi hz0 hz1 hz2 rfl (by decide) _ 0 [] rfl (World.ownsRow_made w #[] 0 (Nat.le_refl _) (Nat.zero_le _) rfl) (some ad) l.length c (strCells l) rfl (hA.below (Yz _)) (by rw[strCells_length];simp) (fun h=>by cases h) (C8 _) (by unfold maxLen;omega) (by omega) (by simp) ?_;intro v1 w3 hown1 hbl1;rw[Nat.zero_add,List.nil_append]at hown1)
  go_ret
  exact⟨_,rfl,hown1,(Yz _).trans hbl1⟩
theorem DY (A:Option Addr)(l:List Int)(c:Nat)(x:Int)(w:World)(hA:Cells w A (intCells l))(hl:l.length<=17592186044416)(M:List (List UInt8)):
 Calls Tryz.prog 117 #[.slice A l.length c,.int .i64 x] w fun e w'=>e=.returned (.int .i64 (Pn.find ⟨l,M⟩ x))/\w'=w:=by
 cases l with
 |nil=>
  refine(Tryz.slices_Index_int_empty A c x w).mono ?_;rintro e w' ⟨rfl,rfl⟩;exact⟨rfl,rfl⟩
 |cons a l=>
  obtain⟨b,off,rfl,hc⟩:=hA.int (i:=0) (by simp);refine(Tryz.slices_Index_int b off (a::l).length c (a::l) x w (Nat.le_refl _) (by omega) (fun j hj=>by rw[hc j hj,List.getD_eq_getElem?_getD,List.getElem?_eq_getElem hj];rfl)).mono ?_;rintro e w' ⟨rfl,rfl⟩;refine⟨?_,rfl⟩
  congr 2
  have hD:∀j (hj:j<(a::l).length),(a::l).getD j 0=(a::l)[j]:=fun j hj=>by rw[List.getD_eq_getElem?_getD,List.getElem?_eq_getElem hj];rfl
  by_cases h:x∈(a::l)
  · obtain⟨i,hi,h1,h2,h3⟩:=Pn.find_in (L:=⟨a::l,M⟩) h;rw[h1];refine Lib.idxOf_hit _ _ i x hi (Nat.le_refl _) ((hD i hi).trans h2) fun j hj=>?_
    rw[hD j (Nat.lt_trans hj hi)];intro e;have:=List.not_of_lt_findIdx (show j<List.findIdx (· ==x) (a::l) by rw[show List.findIdx (· ==x) (a::l)=i from h3];exact hj);rw[e]at this;simp at this
  · rw[Pn.find_out (L:=⟨a::l,M⟩) h];refine Lib.idxOf_miss _ _ x fun j hj=>?_
    rw[hD j hj];intro e;exact h (e▸List.getElem_mem hj)
theorem Cv (k:Int)(w:World):Calls Tryz.prog 114 #[.int .i64 k] w fun e w'=>e=.returned (.bool (!sectorOk k))/\w'=w:=by
 by_cases h0:k<0
 · have Hw:=hid (show sectorOk k=false by simp[sectorOk];omega);go_enter Tryz.func114,Tryz.ntmps114;go_wp2_with fail
   go_ret
   exact⟨by rw[Hw.out];rfl,rfl⟩
 · have Hw:=hid (show(!sectorOk k)=decide (1024<=k) by simp[sectorOk];rw[decide_eq_true (by omega:0<=k)];simp;rw[<-decide_not];congr 1;simp);go_enter Tryz.func114,Tryz.ntmps114;go_wp2_with fail
   go_ret
   exact⟨by rw[Hw.out];rfl,rfl⟩
theorem Eo (k:Int)(w:World):Calls Tryz.prog 90 #[.int .i64 k] w fun e w'=>e=.returned (.bool (sectorOk k))/\Below w.heap.size w w':=by
 by_cases h0:0<=k
 · have Hw:=hid (show sectorOk k=decide (k<1024) by simp[sectorOk,h0]);go_enter Tryz.func90,Tryz.ntmps90;go_wp2_with fail
   go_ret
   exact⟨by rw[Hw.out];rfl,Below.refl _ _⟩
 · have Hw:=hid (show sectorOk k=false by simp[sectorOk,h0]);go_enter Tryz.func90,Tryz.ntmps90;go_wp2_with fail
   go_ret
   exact⟨by rw[Hw.out];rfl,Below.refl _ _⟩
theorem En (L:Pn)(p q:Pl)(k:Int)(w:World)(hL:IsPn w L p q)(ht:L.targets.length<=17592186044416):
 Calls Tryz.prog 91 #[pval L p q,.int .i64 k] w fun e w'=>e=.returned (.int .i64 (L.find k))/\Below w.heap.size w w':=by
 have hc:=fun(W:World)(hb:Below w.heap.size w W)=>hL.targets.below hb
 clear hL;obtain⟨A1,c1⟩:=p;obtain⟨A2,c2⟩:=q;simp only at hc;have x0:=Blk.new w 63 #[.slice A1 L.targets.length c1,.slice A2 L.data.length c2];have b0:=Yz (W:=w) (.cells #[.slice A1 L.targets.length c1,.slice A2 L.data.length c2] 63);go_enter Tryz.func91,Tryz.ntmps91;go_wp2_with fail
 go_loopw [5] (fun x W=>∃i:Nat,i<=L.targets.length/\x=.int .i64 i/\Hid (∀j (hj:j<L.targets.length),j<i->L.targets[j]≠k)/\
  Blk W w.heap.size 63 #[.slice A1 L.targets.length c1,.slice A2 L.data.length c2]/\Below w.heap.size w W) (fun x _=>L.targets.length-(intOf x).toNat)
 case atStart=>exact⟨0,Nat.zero_le _,rfl,hid (fun j hj h0=>by omega),x0,b0⟩
 case round=>
  clear x0 b0;obtain⟨i,hi,rfl,hok,hx,hb⟩:=hrel;have k0:=blk2 hx;by_cases hlt:i<L.targets.length
  · obtain⟨pb,po,hpa,hcell⟩:=(hc _ hb).int hlt;subst hpa;have y0:=hcell i hlt;clear hcell;by_cases he:L.targets[i]=k
    · have he1:(L.targets[i]==k)=true:=by simpa using he
      have Hf:=hid (Pn.find_hit hlt he hok.out);clear he;go_wp2_with fail
      go_ret
      exact⟨by rw[Hf.out];rfl,hb⟩
    · have he1:(L.targets[i]==k)=false:=by simpa using he
      have He:=hid he;clear he;go_wp2_with fail
      go_roundw
      case rel=>exact⟨i+1,by omega,by go_num,hid (fun j hj hji=>by
       rcases Nat.lt_or_ge j i with h'|h'
       · exact hok.out j hj h'
       · obtain rfl:j=i:=by omega
         exact He.out),hx,hb⟩
      case measure=>simp[intOf];omega
  · have Hf:=hid (Pn.find_miss fun j hj=>hok.out j hj (by omega));clear hok;go_wp2_with fail
    go_ret
    exact⟨by rw[Hf.out];rfl,hb⟩
theorem L7 (L:Pn)(p q:Pl)(w:World)(hL:IsPn w L p q)(k:Int)(s:List UInt8)(h1:sectorOk k=false):
 Calls Tryz.prog 77 #[pval L p q,.int .i64 k,.string (bs s)] w fun e w'=>RetPn w.heap.size L p q (L.set k s) e w'/\Below w.heap.size w w':=by
 have Hw:=hid (show L.set k s=(L,10) by simp[Pn.set,h1]);have ho:=fun W=>Cv k W
 rw[h1]at ho;obtain⟨A1,c1⟩:=p;obtain⟨A2,c2⟩:=q;go_enter Tryz.func77,Tryz.ntmps77;go_wp2_with fail
 go_at_call 114;refine(ho _).mono ?_;rintro e w1 ⟨rfl,rfl⟩;go_wp2_with fail
 rw[Hw.out];have yy:=blk2 (Blk.new (w.alloc (.cells #[.slice A1 L.targets.length c1,.slice A2 L.data.length c2] 63)) 63 #[.slice A1 L.targets.length c1,.slice A2 L.data.length c2]);simp only[Ys]at yy;have hb1:=Ap w (.cells #[.slice A1 L.targets.length c1,.slice A2 L.data.length c2] 63) (.cells #[.slice A1 L.targets.length c1,.slice A2 L.data.length c2] 63);refine bodyPost_ret (v:=.tuple #[pval L ⟨A1,c1⟩ ⟨A2,c2⟩,.int .i64 10]) (by simp[results,Tryz.results77,go_sem,yy]) rfl ?_;exact⟨⟨_,_,rfl,hL.below hb1,fun _ _ h=>h⟩,hb1⟩
theorem L8 (L:Pn)(p q:Pl)(w:World)(hL:IsPn w L p q)(k:Int)(s:List UInt8)(hs:s.length<=9223372036854775807)(h1:sectorOk k=true)(h2:s.length≠64):
 Calls Tryz.prog 77 #[pval L p q,.int .i64 k,.string (bs s)] w fun e w'=>RetPn w.heap.size L p q (L.set k s) e w'/\Below w.heap.size w w':=by
 have Hw:=hid (show L.set k s=(L,11) by simp[Pn.set,h1,h2]);have ho:=fun W=>Cv k W
 rw[h1]at ho;have n0:((s.length:Int) !=64)=true:=by simp;omega
 obtain⟨A1,c1⟩:=p;obtain⟨A2,c2⟩:=q;go_enter Tryz.func77,Tryz.ntmps77;go_wp2_with fail
 go_at_call 114;refine(ho _).mono ?_;rintro e w1 ⟨rfl,rfl⟩;go_wp2_with fail
 rw[Hw.out];have yy:=blk2 (Blk.new (w.alloc (.cells #[.slice A1 L.targets.length c1,.slice A2 L.data.length c2] 63)) 63 #[.slice A1 L.targets.length c1,.slice A2 L.data.length c2]);simp only[Ys]at yy;have hb1:=Ap w (.cells #[.slice A1 L.targets.length c1,.slice A2 L.data.length c2] 63) (.cells #[.slice A1 L.targets.length c1,.slice A2 L.data.length c2] 63);refine bodyPost_ret (v:=.tuple #[pval L ⟨A1,c1⟩ ⟨A2,c2⟩,.int .i64 11]) (by simp[results,Tryz.results77,go_sem,yy]) rfl ?_;exact⟨⟨_,_,rfl,hL.below hb1,fun _ _ h=>h⟩,hb1⟩
end
end Go.Proofs.YtmiilfnchfdfcaaGreatDoor
