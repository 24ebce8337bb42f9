/- By: TableLaw, PointPlain, JourPlain. -/
import Derived.Test.YtmiilfnchfdfcaaGreatDoorByPlain1
set_option maxRecDepth 100000
set_option maxHeartbeats 40000000
namespace Go.Proofs.YtmiilfnchfdfcaaGreatDoor
section
theorem CI:∀(l:List UInt8),be l.length (un l)=l:=by
 intro l
 induction l with
 |nil=>rfl
 |cons c l ih=>
  have e:un (c::l)=c.toNat*256^l.length+un l:=by
   have:=CD [c] l;simpa[un]using this
  have hl:=Bm l;show be (l.length+1) (un (c::l))=_;rw[be,e];have h1:(c.toNat*256^l.length+un l)/256^l.length=c.toNat:=by
   rw[Nat.mul_comm,Nat.mul_add_div (Nat.pow_pos (by omega)),Nat.div_eq_of_lt hl];omega
  have h2:be l.length (c.toNat*256^l.length+un l)=be l.length (un l):=by
   rw[Dz,Nat.mul_comm,Nat.mul_add_mod,Nat.mod_eq_of_lt hl]
  rw[h1,h2,ih];simp
theorem EQ (a b n:Nat):be (a+b) n=be a (n/256^b)++be b n:=by
 have h:un (be a (n/256^b)++be b n)=n%256^(a+b):=by
  rw[CD,Ci,Ci,Aq,Nat.pow_add,Nat.mul_comm (256^a),Nat.mod_mul,Nat.mul_comm,Nat.add_comm]
 have h2:=CI (be a (n/256^b)++be b n);rw[h,List.length_append,Aq,Aq,<-Dz]at h2;exact h2
namespace Pn
def entOk (K A:Int):Bool:=if K=1 then decide (0<=A)&&decide (A<256)else(decide (K=0)||decide (K=2))&&decide (A=0)
theorem J9 {K A:Int}:entOk K A=true↔(K=1/\0<=A/\A<256)\/((K=0\/K=2)/\A=0):=by
 unfold entOk
 split
 · rename_i h;subst h;simp
 · rename_i h;simp[h]
theorem entOk_small {K A:Int}(h:entOk K A=true):0<=K/\K<=2/\0<=A/\A<256:=by
 rcases J9.1 h with ⟨a,b,c⟩|⟨a|a,b⟩<;>omega
def refused (t i:Int):Prop:=(t<0\/256<=t)\/(i<0\/16<=i)
instance (t i:Int):Decidable (refused t i):=inferInstanceAs (Decidable (_\/_))
def entOf (s:List UInt8):(Int×Int)×Int:=if entOk ((un s/72057594037927936:Nat):Int) ((un s%72057594037927936:Nat):Int)then((((un s/72057594037927936:Nat):Int),((un s%72057594037927936:Nat):Int)),0)else((0,0),14)
def entBytes (K A:Int):List UInt8:=be 8 (K.toNat*72057594037927936+A.toNat)
theorem entBytes_length (K A:Int):(entBytes K A).length=8:=Aq _ _
def entAt (t i:Int):Int:=96+2*t+i/8
def entOff (i:Int):Int:=8*(i%8)
def tabGet (D:Dk)(L:Pn)(t i:Int):(Int×Int)×Int:=
 if refused t i then((0,0),10)else if(look D L (entAt t i)).2≠0 then((0,0),(look D L (entAt t i)).2)else entOf (cut (look D L (entAt t i)).1 (entOff i).toNat 8)
def tabSet (D:Dk)(L:Pn)(t i K A:Int):Pn×Int:=
 if refused t i then(L,10)else if entOk K A=false then(L,23)else patch D L (entAt t i) (entOff i) (entBytes K A)
def set2 (L:Pn)(t:Int)(half:Pn->Int->List UInt8×Int):Pn×Int:=
 if(half L 0).2≠0 then(L,(half L 0).2)else if(L.set (96+2*t) (half L 0).1).2≠0 then(L,(L.set (96+2*t) (half L 0).1).2)
 else if(half (L.set (96+2*t) (half L 0).1).1 1).2≠0 then(L,(half (L.set (96+2*t) (half L 0).1).1 1).2)
 else if((L.set (96+2*t) (half L 0).1).1.set (96+2*t+1) (half (L.set (96+2*t) (half L 0).1).1 1).1).2≠0 then(L,((L.set (96+2*t) (half L 0).1).1.set (96+2*t+1) (half (L.set (96+2*t) (half L 0).1).1 1).1).2)
 else(((L.set (96+2*t) (half L 0).1).1.set (96+2*t+1) (half (L.set (96+2*t) (half L 0).1).1 1).1).1,0)
def tabBlank (L:Pn)(t:Int):Pn×Int:=if t<0\/256<=t then(L,10)else set2 L t fun _ _=>(List.replicate 64 0,0)
def tabCopy (D:Dk)(L:Pn)(f t:Int):Pn×Int:=if(f<0\/256<=f)\/(t<0\/256<=t)then(L,10)else set2 L t fun Q i=>look D Q (96+2*f+i)
def tabFind (D:Dk)(L:Pn)(l1 g:Int):(Int×Int)×Int:=
 if g<0\/64<=g then((0,0),10)else if(tabGet D L l1 (g/16)).2≠0\/(tabGet D L l1 (g/16)).1.1=0 then((0,0),(tabGet D L l1 (g/16)).2)
 else if(tabGet D L l1 (g/16)).1.1=2 then((0,0),14)else tabGet D L (tabGet D L l1 (g/16)).1.2 (g%16)
theorem J7 {s:List UInt8}(h:(entOf s).2=0):entOk (entOf s).1.1 (entOf s).1.2=true:=by
 rw[entOf]at h ⊢
 split
 · rename_i h1;exact h1
 · rename_i h1;rw[if_neg h1]at h;simp at h
theorem J5 {K A:Int}(h:entOk K A=true):entOf (entBytes K A)=((K,A),0):=by
 obtain⟨h1,h2,h3,h4⟩:=entOk_small h;obtain⟨k,rfl⟩:=Int.eq_ofNat_of_zero_le h1;obtain⟨a,rfl⟩:=Int.eq_ofNat_of_zero_le h3;have e:un (entBytes (k:Int) (a:Int))=k*72057594037927936+a:=by
  rw[entBytes,Ci,Int.toNat_natCast,Int.toNat_natCast,Nat.mod_eq_of_lt];have:(256:Nat)^8=18446744073709551616:=by decide
  omega
 rw[entOf,e];have e1:(k*72057594037927936+a)/72057594037927936=k:=by omega
 have e2:(k*72057594037927936+a)%72057594037927936=a:=by omega
 rw[e1,e2,if_pos h]
theorem entOf_ref {s:List UInt8}(hl:s.length=8):
 entOf s=if entOk (un (s.take 1):Nat) (un (s.drop 4):Nat)=true/\(be 1 (un (s.take 1))++[0,0,0])++be 4 (un (s.drop 4))=s then((((un (s.take 1):Nat):Int),((un (s.drop 4):Nat):Int)),0)else((0,0),14):=by
 have e1:un s=un (s.take 1)*256^7+un (s.drop 1):=by
  have:=CD (s.take 1) (s.drop 1);rw[List.take_append_drop,List.length_drop,hl]at this;exact this
 have b1:=Bm (s.take 1);have b2:=Bm (s.drop 1);have b3:=Bm (s.drop 4);have b4:=Bm ((s.drop 1).take 3);have l1:(s.take 1).length=1:=by simp;omega
 have l2:(s.drop 1).length=7:=by simp;omega
 have l3:(s.drop 4).length=4:=by simp;omega
 have l4:((s.drop 1).take 3).length=3:=by simp;omega
 rw[l1]at b1;rw[l2]at b2;rw[l3]at b3;rw[l4]at b4;have e2:un (s.drop 1)=un ((s.drop 1).take 3)*256^4+un (s.drop 4):=by
  have:=CD ((s.drop 1).take 3) ((s.drop 1).drop 3);rw[List.take_append_drop,List.drop_drop]at this;rw[this,show(s.drop (1+3)).length=4 from l3]
 have p7:(256:Nat)^7=72057594037927936:=by decide
 have p4:(256:Nat)^4=4294967296:=by decide
 have p3:(256:Nat)^3=16777216:=by decide
 rw[p7]at e1 b2;rw[p4]at e2 b3;rw[p3]at b4;have f1:un s/72057594037927936=un (s.take 1):=by omega
 have f2:un s%72057594037927936=un (s.drop 1):=by omega
 have back:(be 1 (un (s.take 1))++[0,0,0])++be 4 (un (s.drop 4))=s↔un ((s.drop 1).take 3)=0:=by
  have s1:=CI (s.take 1);have s4:=CI (s.drop 4);have s3:=CI ((s.drop 1).take 3);rw[l1]at s1;rw[l3]at s4;rw[l4]at s3;rw[s1,s4];have hs:s=s.take 1++(s.drop 1).take 3++s.drop 4:=by
   have h1:=List.take_append_drop 1 s;have h2:=List.take_append_drop 3 (s.drop 1);rw[List.drop_drop]at h2;rw[List.append_assoc,h2,h1]
  constructor
  · intro h;have:(s.take 1++[0,0,0])++s.drop 4=s.take 1++(s.drop 1).take 3++s.drop 4:=h.trans hs;have:=List.append_cancel_left (List.append_cancel_right this);rw[<-this];rfl
  · intro h;rw[h]at s3;have:[0,0,0]=(s.drop 1).take 3:=s3;rw[this];exact hs.symm
 rw[entOf,f1,f2];by_cases hz:un ((s.drop 1).take 3)=0
 · have g:un (s.drop 1)=un (s.drop 4):=by omega
   rw[g];by_cases ho:entOk (un (s.take 1):Nat) (un (s.drop 4):Nat)=true
   · rw[if_pos ho,if_pos ⟨ho,back.2 hz⟩]
   · rw[if_neg ho,if_neg (fun h=>ho h.1)]
 · rw[if_neg (fun h=>by have:=(entOk_small h).2.2.2;omega),if_neg (fun h=>hz (back.1 h.2))]
end Pn
end
section
namespace Pn
variable {D:Dk} {L X:Pn}
theorem tabGet_refused {t i:Int}(h:refused t i):tabGet D L t i=((0,0),10):=by rw[tabGet,if_pos h]
theorem OX {t i:Int}(h:(tabGet D L t i).2=0):entOk (tabGet D L t i).1.1 (tabGet D L t i).1.2=true:=by
 revert h
 rw[tabGet]
 split
 · intro h;simp at h
 · split
   · rename_i h;intro h2;exact absurd h2 h
   · exact J7
theorem tabGet_err {t i:Int}(h:(tabGet D L t i).2≠0):(tabGet D L t i).1=(0,0):=by
 revert h
 rw[tabGet]
 split
 · intro _;rfl
 · split
   · intro _;rfl
   · rw[entOf];split
     · intro h;exact absurd rfl h
     · intro _;rfl
theorem tabGet_small (D:Dk)(L:Pn)(t i:Int):0<=(tabGet D L t i).1.1/\(tabGet D L t i).1.1<=2/\0<=(tabGet D L t i).1.2/\(tabGet D L t i).1.2<256:=by
 by_cases h:(tabGet D L t i).2=0
 · exact entOk_small (OX h)
 · rw[tabGet_err h];simp
theorem Ez {E:Dk}{M:Pn}{t u i:Int}(ht:0<=t/\t<256)(hu:0<=u/\u<256)(h:0<=i->i<16->look D L (entAt t i)=look E M (entAt u i)):tabGet D L t i=tabGet E M u i:=by
 by_cases hi:i<0\/16<=i
 · rw[tabGet_refused (.inr hi),tabGet_refused (.inr hi)]
 · have r1:¬refused t i:=fun h=>by unfold refused at h;omega
   have r2:¬refused u i:=fun h=>by unfold refused at h;omega
   rw[tabGet,tabGet,if_neg r1,if_neg r2,h (by omega) (by omega)]
theorem O7 {t i K A:Int}(h:(tabSet D L t i K A).2≠0):(tabSet D L t i K A).1=L:=by
 revert h
 rw[tabSet]
 split
 · intro _;rfl
 · split
   · intro _;rfl
   · exact Gj
theorem Pb {t i K A:Int}(hD:D.fit=true)(hL:L.Fit)(h:tabSet D L t i K A=(X,0)):
 X.Fit/\tabGet D X t i=((K,A),0)/\∀o k,(o≠t\/k≠i)->tabGet D X o k=tabGet D L o k:=by
 rw[tabSet]at h
 split at h
 · injection h with _ h;simp at h
 · rename_i hr
   split at h
   · injection h with _ h;simp at h
   · rename_i he
     have he:entOk K A=true:=by simpa using he
     have hr':(0<=t/\t<256)/\0<=i/\i<16:=by unfold refused at hr;omega
     obtain⟨p1,p2,p3,p4⟩:=Gi hD hL h;obtain⟨q1,q2,q3,_⟩:=Eh hD hL h;have hl:=look_full hD hL q1;rw[entBytes_length]at q3;refine⟨p1,?_,fun o k hok=>?_⟩
     · rw[tabGet,if_neg hr,p2];simp only[ne_eq,not_true_eq_false,if_false];have e:=Fh (s:=(look D L (entAt t i)).1) (t:=entBytes K A) (o:=(entOff i).toNat) (by rw[entBytes_length,hl];exact q3);rw[entBytes_length]at e;rw[e,J5 he]
     · by_cases hk:refused o k
       · rw[tabGet_refused hk,tabGet_refused hk]
       · rw[tabGet,tabGet,if_neg hk,if_neg hk];have hk':(0<=o/\o<256)/\0<=k/\k<16:=by unfold refused at hk;omega
         by_cases hs:entAt o k=entAt t i
         · rw[hs,p2,q1];simp only[ne_eq,not_true_eq_false,if_false];rw[Fi (by rw[entBytes_length,hl];exact q3) (by rw[entBytes_length];unfold entOff at q3 ⊢;unfold entAt at hs;omega)]
         · rw[p3 _ hs]
theorem GV {t:Int}{half:Pn->Int->List UInt8×Int}(h:(set2 L t half).2≠0):(set2 L t half).1=L:=by
 revert h
 rw[set2]
 split
 · intro _;rfl
 · split
   · intro _;rfl
   · split
     · intro _;rfl
     · split
       · intro _;rfl
       · intro h;exact absurd rfl h
theorem GW {t:Int}{half:Pn->Int->List UInt8×Int}(hL:L.Fit)(h:set2 L t half=(X,0)):
 ∃s0 s1 M,half L 0=(s0,0)/\L.set (96+2*t) s0=(M,0)/\half M 1=(s1,0)/\M.set (96+2*t+1) s1=(X,0)/\M.Fit/\X.Fit/\
  ∀D,look D X (96+2*t)=(s0,0)/\look D X (96+2*t+1)=(s1,0)/\∀o,o≠96+2*t->o≠96+2*t+1->look D X o=look D L o:=by
 rw[set2]at h
 split at h
 · rename_i h0;injection h with _ h;exact absurd h h0
 · rename_i h0
   split at h
   · rename_i h1;injection h with _ h;exact absurd h h1
   · rename_i h1
     split at h
     · rename_i h2;injection h with _ h;exact absurd h h2
     · rename_i h2
       split at h
       · rename_i h3;injection h with _ h;exact absurd h h3
       · rename_i h3
         injection h with h _
         have h0:(half L 0).2=0:=by simpa using h0
         have h1:(L.set (96+2*t) (half L 0).1).2=0:=by simpa using h1
         have h2:(half (L.set (96+2*t) (half L 0).1).1 1).2=0:=by simpa using h2
         have h3:((L.set (96+2*t) (half L 0).1).1.set (96+2*t+1) (half (L.set (96+2*t) (half L 0).1).1 1).1).2=0:=by simpa using h3
         have f1:=set_fit hL (96+2*t) (half L 0).1;have f2:=set_fit f1 (96+2*t+1) (half (L.set (96+2*t) (half L 0).1).1 1).1;refine⟨_,_,_,Prod.ext rfl h0,Prod.ext rfl h1,Prod.ext rfl h2,Prod.ext h h3,f1,by rw[<-h];exact f2,fun D=>?_⟩;obtain⟨a1,a2⟩:=CX hL h1 D;obtain⟨b1,b2⟩:=CX f1 h3 D;rw[h]at b1 b2;exact⟨by rw[b2 _ (by omega),a1],b1,fun o ho ho'=>by rw[b2 o ho',a2 o ho]⟩
theorem OT {t:Int}(h:(tabBlank L t).2≠0):(tabBlank L t).1=L:=by
 revert h
 rw[tabBlank]
 split
 · intro _;rfl
 · exact GV
theorem OV {f t:Int}(h:(tabCopy D L f t).2≠0):(tabCopy D L f t).1=L:=by
 revert h
 rw[tabCopy]
 split
 · intro _;rfl
 · exact GV
theorem J8:entOf (List.replicate 8 0)=((0,0),0):=by decide
theorem OU {t:Int}(hL:L.Fit)(h:tabBlank L t=(X,0)):X.Fit/\(0<=t/\t<256)/\(∀i,0<=i->i<16->tabGet D X t i=((0,0),0))/\∀o k,o≠t->tabGet D X o k=tabGet D L o k:=by
 rw[tabBlank]at h
 split at h
 · injection h with _ h;simp at h
 · rename_i ht
   obtain⟨s0,s1,M,h1,h2,h3,h4,_,hX,hs⟩:=GW hL h;injection h1 with h1 _
   injection h3 with h3 _
   obtain⟨a,b,c⟩:=hs D;refine⟨hX,by omega,fun i hi hi2=>?_,fun o k ho=>?_⟩
   · have hr:¬refused t i:=fun h=>by unfold refused at h;omega
     rw[tabGet,if_neg hr];have e:look D X (entAt t i)=(List.replicate 64 0,0):=by
      rcases(show entAt t i=96+2*t\/entAt t i=96+2*t+1 by unfold entAt;omega)with h|h
      · rw[h,a,<-h1]
      · rw[h,b,<-h3]
     rw[e,if_neg (by simp)];have:cut (List.replicate 64 (0:UInt8)) (entOff i).toNat 8=List.replicate 8 0:=by
      rw[cut,List.drop_replicate,List.take_replicate]
      congr 1
      unfold entOff;omega
     rw[this,J8]
   · by_cases hr:o<0\/256<=o
     · rw[tabGet_refused (.inl hr),tabGet_refused (.inl hr)]
     · exact Ez (by omega) (by omega) (fun hi hi2=>c _ (by unfold entAt;omega) (by unfold entAt;omega))
theorem OW {f t:Int}(hL:L.Fit)(h:tabCopy D L f t=(X,0)):X.Fit/\(∀i,tabGet D X t i=tabGet D L f i)/\∀o k,o≠t->tabGet D X o k=tabGet D L o k:=by
 rw[tabCopy]at h
 split at h
 · injection h with _ h;simp at h
 · rename_i ht
   obtain⟨s0,s1,M,h1,h2,h3,h4,_,hX,hs⟩:=GW hL h;obtain⟨a,b,c⟩:=hs D;have h5:=(CX hL (k:=96+2*t) (s:=s0) (by rw[h2]) D).2 (96+2*f+1) (by omega);rw[h2]at h5;have h3:look D M (96+2*f+1)=(s1,0):=h3;have h1:look D L (96+2*f+0)=(s0,0):=h1;refine⟨hX,fun i=>?_,fun o k ho=>?_⟩
   · refine Ez (by omega) (by omega) (fun hi hi2=>?_)
     rcases(show(entAt t i=96+2*t/\entAt f i=96+2*f+0)\/(entAt t i=96+2*t+1/\entAt f i=96+2*f+1) by unfold entAt;omega)with ⟨h,h'⟩|⟨h,h'⟩
     · rw[h,h',a,h1]
     · rw[h,h',b,<-h5,h3]
   · by_cases hr:o<0\/256<=o
     · rw[tabGet_refused (.inl hr),tabGet_refused (.inl hr)]
     · exact Ez (by omega) (by omega) (fun hi hi2=>c _ (by unfold entAt;omega) (by unfold entAt;omega))
theorem tabFind_small (D:Dk)(L:Pn)(t g:Int):0<=(tabFind D L t g).1.1/\(tabFind D L t g).1.1<=2/\0<=(tabFind D L t g).1.2/\(tabFind D L t g).1.2<256:=by
 rw[tabFind]
 split
 · simp
 · split
   · simp
   · split
     · simp
     · exact tabGet_small _ _ _ _
end Pn
end
section
def magicR:List UInt8:=[67,79,70,82]
def rtBody (l n:Nat):List UInt8:=magicR++be 2 l++be 4 n
def rtHead (l n:Nat):List UInt8:=Au (rtBody l n++be 4 (crcOf (rtBody l n)))
theorem GJ (l n:Nat):(rtBody l n).length=10:=by simp[rtBody,magicR,Aq]
theorem NQ (l n:Nat):(rtHead l n).length=64:=Ct (by simp[GJ,Aq])
def rtOf (s:List UInt8):(Nat×Nat)×Int:=
 if s.take 4≠magicR then((0,0),14)else if be 4 (crcOf (s.take 10))≠(s.drop 10).take 4 then((0,0),15)
 else if 256<=un ((s.drop 4).take 2)\/rtHead (un ((s.drop 4).take 2)) (un ((s.drop 6).take 4))≠s then((0,0),14)else((un ((s.drop 4).take 2),un ((s.drop 6).take 4)),0)
def Pn.rtGet (D:Dk)(L:Pn):(Nat×Nat)×Int:=if(Pn.look D L 1).2≠0 then((0,0),(Pn.look D L 1).2)else rtOf (Pn.look D L 1).1
namespace Pn
def step (s:Pn×Int)(f:Pn->Pn×Int):Pn×Int:=if s.2≠0 then s else f s.1
theorem step_zero {s:Pn×Int}{f:Pn->Pn×Int}(h:s.2=0):step s f=f s.1:=by unfold step;rw[if_neg (by rw[h];simp)]
theorem step_err {s:Pn×Int}{f:Pn->Pn×Int}(h:s.2≠0):step s f=s:=by unfold step;rw[if_pos h]
theorem Ds {s:Pn×Int}{f:Pn->Pn×Int}(h:s.1.Fit)(hf:∀X:Pn,X.Fit->(f X).1.Fit):(step s f).1.Fit:=by
 unfold step
 split
 · exact h
 · exact hf _ h
def freshSteps (D:Dk)(L:Pn)(h l1 i f:Int):Pn×Int:=
 step (step (step ((alTake D L h).1,(alTake D L h).2.2) fun X=>if f<0 then tabBlank X (alTake D L h).2.1 else tabCopy D X f (alTake D L h).2.1) fun X=>if f<0 then(X,0)else cntAdd D X f (-1)) fun X=>tabSet D X l1 i 1 (alTake D L h).2.1
def ptFresh (D:Dk)(L:Pn)(h l1 i f:Int):Pn×Int×Int:=if(freshSteps D L h l1 i f).2≠0 then(L,0,(freshSteps D L h l1 i f).2)else((freshSteps D L h l1 i f).1,(alTake D L h).2.1,0)
def ptOwn (D:Dk)(L:Pn)(g h u:Int):Pn×Int×Int:=
 if u<0\/g<=u then(L,0,10)else if(rtGet D L).2≠0 then(L,0,(rtGet D L).2)
 else if(tabGet D L (rtGet D L).1.1 (u/16)).2≠0 then(L,0,(tabGet D L (rtGet D L).1.1 (u/16)).2)
 else if(tabGet D L (rtGet D L).1.1 (u/16)).1.1=2 then(L,0,14)
 else if(tabGet D L (rtGet D L).1.1 (u/16)).1.1=0 then ptFresh D L h (rtGet D L).1.1 (u/16) (-1)
 else if(cntGet D L (tabGet D L (rtGet D L).1.1 (u/16)).1.2).2≠0 then(L,0,(cntGet D L (tabGet D L (rtGet D L).1.1 (u/16)).1.2).2)
 else if(cntGet D L (tabGet D L (rtGet D L).1.1 (u/16)).1.2).1<=1 then(L,(tabGet D L (rtGet D L).1.1 (u/16)).1.2,0)
 else ptFresh D L h (rtGet D L).1.1 (u/16) (tabGet D L (rtGet D L).1.1 (u/16)).1.2
def putSteps (D:Dk)(X:Pn)(t u K A:Int):Pn×Int:=step (if(tabGet D X t (u%16)).1.1=1 then cntAdd D X (tabGet D X t (u%16)).1.2 (-1)else(X,0)) fun Y=>tabSet D Y t (u%16) K A
def ptPoint (D:Dk)(L:Pn)(g h u K A:Int):Pn×Int:=
 if(ptOwn D L g h u).2.2≠0 then(L,(ptOwn D L g h u).2.2)
 else if(tabGet D (ptOwn D L g h u).1 (ptOwn D L g h u).2.1 (u%16)).2≠0 then(L,(tabGet D (ptOwn D L g h u).1 (ptOwn D L g h u).2.1 (u%16)).2)
 else if(putSteps D (ptOwn D L g h u).1 (ptOwn D L g h u).2.1 u K A).2≠0 then(L,(putSteps D (ptOwn D L g h u).1 (ptOwn D L g h u).2.1 u K A).2)
 else((putSteps D (ptOwn D L g h u).1 (ptOwn D L g h u).2.1 u K A).1,0)
variable {D:Dk} {L X:Pn}
theorem cntAdd_fit (hD:D.fit=true)(hL:L.Fit)(k b:Int):(cntAdd D L k b).1.Fit:=by
 by_cases h:(cntAdd D L k b).2=0
 · exact(IV hD hL (X:=(cntAdd D L k b).1) (Prod.ext rfl h)).2.2.2.2.2.1
 · rw[IU h];exact hL
theorem Ho (hD:D.fit=true)(hL:L.Fit)(t i K A:Int):(tabSet D L t i K A).1.Fit:=by
 by_cases h:(tabSet D L t i K A).2=0
 · exact(Pb hD hL (X:=(tabSet D L t i K A).1) (Prod.ext rfl h)).1
 · rw[O7 h];exact hL
theorem tabBlank_fit (hL:L.Fit)(t:Int):(tabBlank L t).1.Fit:=by
 by_cases h:(tabBlank L t).2=0
 · exact(OU (D:=⟨[],[],0,false,[]⟩) hL (X:=(tabBlank L t).1) (Prod.ext rfl h)).1
 · rw[OT h];exact hL
theorem tabCopy_fit (hL:L.Fit)(f t:Int):(tabCopy D L f t).1.Fit:=by
 by_cases h:(tabCopy D L f t).2=0
 · exact(OW hL (X:=(tabCopy D L f t).1) (Prod.ext rfl h)).1
 · rw[OV h];exact hL
theorem alTake_fit (hD:D.fit=true)(hL:L.Fit)(h:Int):(alTake D L h).1.Fit:=by
 rcases EK D L h with ⟨k,X,_,h2,_,_,h5⟩|⟨_,h2,_⟩
 · rw[h2];have:=cntAdd_fit hD hL (k:Int) 1;rw[h5]at this;exact this
 · rw[h2];exact hL
theorem alTake_small {h:Int}(hh:h<=256):0<=(alTake D L h).2.1/\(alTake D L h).2.1<256:=by
 rcases EK D L h with ⟨k,X,h1,h2,_,_,_⟩|⟨_,_,h2⟩
 · rw[h2];show(0:Int)<=(k:Int)/\(k:Int)<256;omega
 · rw[h2];decide
theorem Kw (hD:D.fit=true)(hL:L.Fit)(h l1 i f:Int):(freshSteps D L h l1 i f).1.Fit:=
 Ds (Ds (Ds (alTake_fit hD hL h) fun X hX=>by split;exact tabBlank_fit hX _;exact tabCopy_fit hX _ _) fun X hX=>by split;exact hX;exact cntAdd_fit hD hX _ _) fun X hX=>Ho hD hX _ _ _ _
theorem Gp (hD:D.fit=true)(hL:L.Fit)(h l1 i f:Int):(ptFresh D L h l1 i f).1.Fit:=by
 unfold ptFresh
 split
 · exact hL
 · exact Kw hD hL h l1 i f
theorem ptOwn_fit (hD:D.fit=true)(hL:L.Fit)(g h u:Int):(ptOwn D L g h u).1.Fit:=by
 unfold ptOwn
 split;exact hL
 split;exact hL
 split;exact hL
 split;exact hL
 split;exact Gp hD hL ..
 split;exact hL
 split;exact hL
 exact Gp hD hL ..
theorem Mm (hD:D.fit=true)(hX:X.Fit)(t u K A:Int):(putSteps D X t u K A).1.Fit:=
 Ds (by split;exact cntAdd_fit hD hX _ _;exact hX) fun Y hY=>Ho hD hY _ _ _ _
theorem ptPoint_fit (hD:D.fit=true)(hL:L.Fit)(g h u K A:Int):(ptPoint D L g h u K A).1.Fit:=by
 unfold ptPoint
 split;exact hL
 split;exact hL
 split;exact hL
 exact Mm hD (ptOwn_fit hD hL g h u) _ _ _ _
end Pn
end
section
namespace Pn
theorem G3 (s:Pn×Int)(f:Pn->Pn×Int):step s f=step s fun _=>f s.1:=by unfold step;rfl
theorem freshSteps_new (D:Dk)(X:Pn)(h l i:Int):freshSteps D X h l i (-1)=step (step ((alTake D X h).1,(alTake D X h).2.2) fun _=>tabBlank (alTake D X h).1 (alTake D X h).2.1) fun Y=>tabSet D Y l i 1 (alTake D X h).2.1:=by
 unfold freshSteps;have e1:(fun X':Pn=>if(-1:Int)<0 then tabBlank X' (alTake D X h).2.1 else tabCopy D X' (-1) (alTake D X h).2.1)=fun X'=>tabBlank X' (alTake D X h).2.1:=by funext x;rw[if_pos (by decide)]
 have e2:(fun X':Pn=>if(-1:Int)<0 then(X',(0:Int))else cntAdd D X' (-1) (-1))=fun X'=>(X',0):=by funext x;rw[if_pos (by decide)]
 rw[e1,e2,<-G3 ((alTake D X h).1,(alTake D X h).2.2) fun X'=>tabBlank X' (alTake D X h).2.1];generalize step ((alTake D X h).1,(alTake D X h).2.2) (fun X'=>tabBlank X' (alTake D X h).2.1)=T;have e3:step T (fun X'=>(X',0))=T:=by
  by_cases h0:T.2=0
  · rw[step_zero h0];exact Prod.ext rfl h0.symm
  · rw[step_err h0]
 rw[e3]
theorem freshSteps_old (D:Dk)(X:Pn)(h l i f:Int)(hf:0<=f):freshSteps D X h l i f=step (step (step ((alTake D X h).1,(alTake D X h).2.2) fun _=>tabCopy D (alTake D X h).1 f (alTake D X h).2.1) fun Y=>cntAdd D Y f (-1)) fun Y=>tabSet D Y l i 1 (alTake D X h).2.1:=by
 unfold freshSteps;have e1:(fun X':Pn=>if f<0 then tabBlank X' (alTake D X h).2.1 else tabCopy D X' f (alTake D X h).2.1)=fun X'=>tabCopy D X' f (alTake D X h).2.1:=by funext x;rw[if_neg (by omega)]
 have e2:(fun X':Pn=>if f<0 then(X',(0:Int))else cntAdd D X' f (-1))=fun X'=>cntAdd D X' f (-1):=by funext x;rw[if_neg (by omega)]
 rw[e1,e2,<-G3 ((alTake D X h).1,(alTake D X h).2.2) fun X'=>tabCopy D X' f (alTake D X h).2.1]
theorem ptOwn_out {D:Dk}{L:Pn}{g h u:Int}(hu:u<0\/g<=u):ptOwn D L g h u=(L,0,10):=by rw[ptOwn,if_pos hu]
theorem Kv {D:Dk}{X:Pn}{h l i f:Int}(he:(alTake D X h).2.2≠0):freshSteps D X h l i f=((alTake D X h).1,(alTake D X h).2.2):=by
 unfold freshSteps;rw[step_err (s:=((alTake D X h).1,(alTake D X h).2.2)) he,step_err (s:=((alTake D X h).1,(alTake D X h).2.2)) he,step_err (s:=((alTake D X h).1,(alTake D X h).2.2)) he]
theorem ptFresh_take {D:Dk}{X:Pn}{h l i f:Int}(he:(alTake D X h).2.2≠0):ptFresh D X h l i f=(X,0,(alTake D X h).2.2):=by
 unfold ptFresh;rw[Kv he,if_pos he]
theorem ptPoint_own {D:Dk}{L:Pn}{g h u K A:Int}(he:(ptOwn D L g h u).2.2≠0):ptPoint D L g h u K A=(L,(ptOwn D L g h u).2.2):=by rw[ptPoint,if_pos he]
theorem ptPoint_in {D:Dk}{L:Pn}{g h u K A:Int}(he:(ptOwn D L g h u).2.2=0):ptPoint D L g h u K A=if(tabGet D (ptOwn D L g h u).1 (ptOwn D L g h u).2.1 (u%16)).2≠0 then(L,(tabGet D (ptOwn D L g h u).1 (ptOwn D L g h u).2.1 (u%16)).2)
 else if(putSteps D (ptOwn D L g h u).1 (ptOwn D L g h u).2.1 u K A).2≠0 then(L,(putSteps D (ptOwn D L g h u).1 (ptOwn D L g h u).2.1 u K A).2)
 else((putSteps D (ptOwn D L g h u).1 (ptOwn D L g h u).2.1 u K A).1,0):=by rw[ptPoint,if_neg (by rw[he];simp)]
end Pn
end
section
set_option linter.unusedVariables false
structure Jr where
 seq:Nat
 pos:Int
def Jr.none:Jr:=⟨1,0⟩
def jrFit (j:Jr):Bool:=decide (1<=j.seq)&&(decide (j.seq<=4611686018427387904)&&(decide (0<=j.pos)&&decide (j.pos<=81)))
def jrPlace (pos size:Int):Int:=if pos<0\/size<0\/81<size\/81-size<pos then 0 else pos
theorem CV {pos size:Int}(h0:0<=size)(h1:size<=81):0<=jrPlace pos size/\jrPlace pos size+size<=81:=by
 unfold jrPlace;split<;>omega
theorem D7 {j:Jr}:jrFit j=true↔1<=j.seq/\j.seq<=4611686018427387904/\0<=j.pos/\j.pos<=81:=by
 simp only[jrFit,Bool.and_eq_true,decide_eq_true_eq]
def rowsFrom:Int->List (List UInt8)->List (Int×List UInt8)
 |_,[]=>[]
 |k,s::l=>(k,s)::rowsFrom (k+1) l
theorem A4:∀(l:List (List UInt8))(k:Int),(rowsFrom k l).length=l.length:=by
 intro l
 induction l with
 |nil=>intro k;rfl
 |cons s l ih=>intro k;rw[rowsFrom,List.length_cons,List.length_cons,ih]
theorem Ce:∀(l:List (List UInt8))(k:Int)(i:Nat)(h:i<l.length),(rowsFrom k l)[i]'(by rw[A4];exact h)=(k+i,l[i]):=by
 intro l
 induction l with
 |nil=>intro k i h;simp at h
 |cons s l ih=>
  intro k i h;cases i with
  |zero=>simp[rowsFrom]
  |succ i=>
   simp only[rowsFrom,List.getElem_cons_succ];rw[ih (k+1) i (by simpa using h)];simp only[Prod.mk.injEq,and_true];omega
namespace Dk
theorem flush_fit {D:Dk}(h:D.fit=true):D.flush.1.fit=true:=by
 unfold flush
 split
 · exact h
 · split
   · exact Fx h rfl rfl rfl
   · exact flushed_fit h _
theorem write_fit {D:Dk}(h:D.fit=true)(k:Int)(s:List UInt8):(D.write k s).1.fit=true:=by
 unfold write
 split
 · exact h
 split
 · exact h
 split
 · exact h
 split
 · exact Fx h rfl rfl rfl
 split
 · exact h
 split
 · exact h
 · rename_i h1 h2 h3 h4 h5 h6
   exact Kn h (by omega) (by simpa using h2) (by omega)
theorem layIn_fit {l:List (Int×List UInt8)}:∀{D:Dk},D.fit=true->(layIn l D).1.fit=true:=by
 induction l with
 |nil=>intro D h;exact h
 |cons x l ih=>
  intro D h;rw[layIn]
  split
  · exact write_fit h _ _
  · exact ih (write_fit h _ _)
def next (X:Dk×Int)(f:Dk->Dk×Int):Dk×Int:=if X.2≠0 then X else f X.1
theorem next_zero {X:Dk×Int}{f:Dk->Dk×Int}(h:X.2=0):next X f=f X.1:=by unfold next;rw[if_neg (by rw[h];simp)]
theorem next_err {X:Dk×Int}{f:Dk->Dk×Int}(h:X.2≠0):next X f=X:=by unfold next;rw[if_pos h]
theorem next_fit {X:Dk×Int}{f:Dk->Dk×Int}(h:X.1.fit=true)(hf:∀D:Dk,D.fit=true->(f D).1.fit=true):(next X f).1.fit=true:=by
 unfold next;split
 · exact h
 · exact hf _ h
end Dk
def comSteps (D:Dk)(k:Int)(l:List (List UInt8))(L:Pn):Dk×Int:=Dk.next (Dk.next (Dk.next D.flush (Dk.layIn (rowsFrom k l))) Dk.flush) fun E=>Pn.lay E L
theorem E6 {D:Dk}(h:D.fit=true)(k:Int)(l:List (List UInt8))(L:Pn):(comSteps D k l L).1.fit=true:=
 Dk.next_fit (Dk.next_fit (Dk.next_fit (Dk.flush_fit h) fun _=>Dk.layIn_fit) fun _=>Dk.flush_fit) fun _=>Dk.layIn_fit
noncomputable def jrRows (j:Jr) (L:Pn):List (List UInt8):=(⟨j.seq,L⟩:Tx).write.1
noncomputable def jrAt (j:Jr) (L:Pn):Int:=jrPlace j.pos (jrRows j L).length
noncomputable def jrCommit (D:Dk) (j:Jr) (L:Pn):Dk×Jr×Int:=
 if L.targets=[]then(D,j,0)else if 4611686018427387904<=j.seq then(D,j,10)
 else if(comSteps D (6+jrAt j L) (jrRows j L) L).2≠0 then((comSteps D (6+jrAt j L) (jrRows j L) L).1,j,(comSteps D (6+jrAt j L) (jrRows j L) L).2)
 else((comSteps D (6+jrAt j L) (jrRows j L) L).1,⟨j.seq+1,jrAt j L+(jrRows j L).length⟩,0)
theorem K8 {D:Dk}(h:D.fit=true)(j:Jr)(L:Pn):(jrCommit D j L).1.fit=true:=by
 unfold jrCommit
 split
 · exact h
 split
 · exact h
 split<;>exact E6 h _ _ _
def jrAll (D:Dk):List (List UInt8)×Int:=allN (fun i:Nat=>D.read (6+(i:Int))) 81
open Classical in
noncomputable def jrIn (l:List (List UInt8)) (n:Int) (i:Nat):Option (Nat×Tx):=
 if(txRead (l.drop i)).2=0/\∀k∈(txRead (l.drop i)).1.plan.targets,k<n then some (i,(txRead (l.drop i)).1)else .none
noncomputable def jrFound (l:List (List UInt8)) (n:Int):List (Nat×Tx):=(List.range 81).filterMap (jrIn l n)
noncomputable def jrScan (D:Dk):List (Nat×Tx)×Int:=if(jrAll D).2≠0 then([],(jrAll D).2)else(jrFound (jrAll D).1 D.sz,0)
end
section
set_option linter.unusedVariables false
namespace Dk
theorem layIn_spec:∀(P:List (Int×List UInt8)){D E:Dk},layIn P D=(E,0)->E.data=D.data/\E.bad=D.bad/\E.off=D.off/\E.cache=D.cache++P/\∀x∈P,D.there x.1=true/\x.1∉D.bad/\x.2.length=64:=by
 intro P
 induction P with
 |nil=>intro D E h;injection h with h _;subst h;exact⟨rfl,rfl,rfl,(List.append_nil _).symm,fun x hx=>by cases hx⟩
 |cons x P ih=>
  intro D E h;rw[layIn]at h
  split at h
  · rename_i h1;rw[h]at h1;exact absurd rfl h1
  · rename_i h1
    obtain⟨e,h2,h3,h4,h5,_⟩:=PZ (D:=D) (k:=x.1) (s:=x.2) (by simpa using h1);rw[e]at h;obtain⟨i1,i2,i3,i4,i5⟩:=ih h;refine⟨i1,i2,i3,by rw[i4,Df,List.append_assoc];rfl,fun y hy=>?_⟩
    rcases List.mem_cons.1 hy with rfl|hy
    · exact⟨h3,h4,h5⟩
    · exact i5 y hy
theorem Mn {D:Dk}(h:D.fuse<0)(k:Int)(s:List UInt8):(D.put k s).fuse<0:=by
 show(if 0<D.fuse then D.fuse-1 else D.fuse)<0;rw[if_neg (by omega)];exact h
theorem layIn_do:∀(P:List (Int×List UInt8)){D:Dk},D.off=false->D.fuse<0->(∀x∈P,D.there x.1=true/\x.1∉D.bad/\x.2.length=64)->D.cache.length+P.length<=4096->∃E,layIn P D=(E,0)/\E.fuse<0:=by
 intro P
 induction P with
 |nil=>intro D _ h _ _;exact⟨D,rfl,h⟩
 |cons x P ih=>
  intro D h1 h2 h3 h4;obtain⟨a,b,c⟩:=h3 x List.mem_cons_self;simp only[List.length_cons]at h4;have e:D.write x.1 x.2=(D.put x.1 x.2,0):=by
   unfold write;rw[if_neg (by rw[h1];simp),if_neg (by rw[a];simp),if_neg (by omega),if_neg (by omega),if_neg b,if_neg (by omega)];rfl
  rw[layIn,e,if_neg (by simp)];exact ih h1 (Mn h2 _ _) (fun y hy=>h3 y (List.mem_cons_of_mem _ hy)) (by rw[Df,List.length_append,List.length_singleton];omega)
theorem flush_do {D:Dk}(h1:D.off=false)(h2:D.fuse<0):D.flush=(({D with data:=D.last fun _=>true,cache:=[]}:Dk).burnt,0):=by
 unfold flush;rw[if_neg (by rw[h1];simp),if_neg (by omega)]
theorem Oa (l m:List (Int×List UInt8))(k:Int):seesIn (l++m) k=match seesIn m k with
 |some s=>some s
 | .none=>seesIn l k:=by
 induction l with
 |nil=>simp only[List.nil_append];cases seesIn m k<;>rfl
 |cons x l ih=>
  have e:seesIn (x::l++m) k=match seesIn (l++m) k with
   |some s=>some s
   | .none=>if x.1=k then some x.2 else .none:=rfl
  rw[e,ih];cases seesIn m k with
  |some s=>rfl
  |none=>rfl
theorem GU {D:Dk}(h:D.cache=[])(k:Nat):D.sees k=secOf D.data k:=by
 unfold sees;rw[h];rfl
end Dk
end
section
set_option linter.unusedVariables false
def BO:List UInt8:=List.replicate 64 120
def BE:Pn:=⟨[5],[BO]⟩
def DL:Jr:=⟨1,0⟩
def AI:Tx:=⟨1,BE⟩
theorem J4:BE.Fit:=by
 have h:=Pn.set_fit Pn.none_fit 5 BO;have e:(Pn.none.set 5 BO).1=BE:=by kernel_rfl
 rwa [e]at h
theorem DM:AI.Ok:=⟨J4,by intro h;cases h⟩
theorem LF {s:List UInt8}(h:s[0]?≠some 67):hcount s=0:=by
 unfold hcount;rw[if_neg];rintro⟨_,h2,_⟩;rw[List.isPrefixOf_iff_prefix]at h2;obtain⟨t,rfl⟩:=h2;exact h rfl
theorem NB {l:List (List UInt8)}(h:hcount (l.headD [])=0):(txRead l).2≠0:=fun h0=>(Es h0).2.1 h
namespace Dk
theorem next_mk (A:Dk)(f:Dk->Dk×Int):next (A,0) f=f A:=next_zero rfl
theorem C4 (A:Dk)(f:Dk->Dk×Int):next (A,12) f=(A,12):=next_err (by simp)
end Dk
theorem Kr (n:Nat):(Dk.blank n).flush=(Dk.blank n,0):=by
 rw[Dk.flush_do rfl (by show(-1:Int)<0;omega)];rfl
theorem GI (l:List (List UInt8))(k:Int):∀x∈rowsFrom k l,∃i,∃h:i<l.length,x=(k+i,l[i]):=by
 intro x hx;obtain⟨i,hi,rfl⟩:=List.getElem_of_mem hx;have hi':i<l.length:=by rwa [A4]at hi
 exact⟨i,hi',Ce l k i hi'⟩
theorem GS (l:List (List UInt8))(k:Int)(i:Nat)(h:i<l.length):Dk.seesIn (rowsFrom k l) (k+i)=some l[i]:=by
 have hi:i<(rowsFrom k l).length:=by rw[A4];exact h
 have e:=Ce l k i h;rw[Dk.seesIn_some hi (by rw[e]) (fun j hj hij=>?_),e];have hj':j<l.length:=by rwa [A4]at hj
 rw[Ce l k j hj'];show k+(j:Int)≠k+(i:Int);omega
theorem GT (l:List (List UInt8))(k o:Int)(h:o<k\/k+l.length<=o):Dk.seesIn (rowsFrom k l) o=.none:=by
 refine Dk.seesIn_none fun j hj=>?_
 have hj':j<l.length:=by rwa [A4]at hj
 rw[Ce l k j hj'];show k+(j:Int)≠o;omega
theorem Kg {β:Type}{f:Nat->Option β}{n:Nat}{b:β}(h0:f 0=some b)(h:∀i,1<=i->i<n+1->f i=.none):(List.range (n+1)).filterMap f=[b]:=by
 rw[List.range_succ_eq_map,List.filterMap_cons,h0];simp only[List.cons.injEq,true_and];rw[List.filterMap_eq_nil_iff];intro a ha;obtain⟨i,hi,rfl⟩:=List.mem_map.1 ha;exact h _ (by omega) (by have:=List.mem_range.1 hi;omega)
theorem DO:AI.rows=[AI.top,Au (nums [5]),BO]:=rfl
theorem Ft:jrRows DL BE=AI.rows:=by
 unfold jrRows;show(Tx.write AI).1=_;unfold Tx.write;rw[if_pos DM]
theorem J3:jrAt DL BE=0:=by
 unfold jrAt;rw[Ft,DO];show jrPlace 0 (3:Int)=0
 decide
theorem DH {D:Dk}(h:D.fuse<0):D.burnt.fuse<0:=by
 show(if 0<D.fuse then D.fuse-1 else D.fuse)<0;rw[if_neg (by omega)];exact h
theorem Iv {n k:Nat}(h1:k<n):(Dk.blank n).sector k=List.replicate 64 0:=by
 unfold Dk.sector Dk.blank;simp only[List.take_replicate,List.drop_replicate]
 congr 1
 omega
theorem e7:∃G:Dk,jrCommit (Dk.blank 112) DL BE=(G,⟨2,3⟩,0)/\G.fit=true/\jrScan G=([(0,AI)],0):=by
 have hth:∀k:Int,0<=k->k<112->(Dk.blank 112).there k=true:=fun k h0 h1=>by
  unfold Dk.there;rw[Dk.blank_sz];simp[h0];omega
 have hrl:AI.rows.length=3:=rfl;obtain⟨E,hE,hEf⟩:=Dk.layIn_do (rowsFrom 6 AI.rows) (D:=Dk.blank 112) rfl (by show(-1:Int)<0;omega) (fun x hx=>by
  obtain⟨i,hi,rfl⟩:=GI _ _ x hx;rw[hrl]at hi;exact⟨hth _ (by show(0:Int)<=6+i;omega) (by show(6:Int)+i<112;omega),(fun h=>by cases h),Tx.rows_64 DM _ (List.getElem_mem _)⟩) (by rw[A4,hrl];decide)
 obtain⟨e1,e2,e3,e4,_⟩:=Dk.layIn_spec _ hE;have hEfit:E.fit=true:=by have:=Dk.layIn_fit (l:=rowsFrom 6 AI.rows) (Dk.blank_fit (n:=112) (by omega) (by omega));rw[hE]at this;exact this
 have hEsz:E.sz=112:=by unfold Dk.sz;rw[e1];exact Dk.blank_sz 112
 have hfl:=Dk.flush_do (D:=E) (e3.trans rfl) hEf;obtain⟨F,hF⟩:∃F,({E with data:=E.last fun _=>true,cache:=[]}:Dk).burnt=F:=⟨_,rfl⟩;have f1:F.data=E.last fun _=>true:=by rw[<-hF];rfl
 have f2:F.bad=[]:=by rw[<-hF];exact e2
 have f3:F.off=false:=by rw[<-hF];exact e3
 have f4:F.cache=[]:=by rw[<-hF];rfl
 have f5:F.fuse<0:=by rw[<-hF];exact DH hEf
 have hFsz:F.sz=112:=by
  unfold Dk.sz;rw[f1,show(E.last fun _=>true).length=E.sz*64 from Dk.lastN_length hEfit _ _,hEsz]
 have hFfit:F.fit=true:=by rw[<-hF];exact Dk.flushed_fit hEfit _
 obtain⟨G,hG,_⟩:=Dk.layIn_do [((5:Int),BO)] (D:=F) f3 f5 (fun x hx=>by
  obtain rfl:=List.mem_singleton.1 hx;refine⟨?_,by rw[f2];exact(fun h=>nomatch h),rfl⟩;unfold Dk.there;rw[hFsz];decide) (by rw[f4];decide)
 obtain⟨g1,g2,g3,g4,_⟩:=Dk.layIn_spec _ hG;have hGfit:G.fit=true:=by have:=Dk.layIn_fit (l:=[((5:Int),BO)]) hFfit;rw[hG]at this;exact this
 have hGsz:G.sz=112:=by unfold Dk.sz;rw[g1];exact hFsz
 have hc:comSteps (Dk.blank 112) 6 AI.rows BE=(G,0):=by
  unfold comSteps;rw[Kr,Dk.next_mk,hE,Dk.next_mk,hfl,hF,Dk.next_mk];exact hG
 refine⟨G,?_,hGfit,?_⟩
 · unfold jrCommit;rw[if_neg (by intro h;cases h),if_neg (by decide),J3,Ft,Int.add_zero,hc,if_neg (by simp)];rfl
 have hread:∀i:Nat,i<81->G.read (6+(i:Int))=(AI.rows.getD i (List.replicate 64 0),0):=fun i hi=>by
  have ht:G.there (6+(i:Int))=true:=by unfold Dk.there;rw[hGsz];simp;omega
  have hs:G.sees (6+(i:Int))=AI.rows.getD i (List.replicate 64 0):=by
   have h1:Dk.seesIn G.cache (6+(i:Int))=.none:=by
    rw[g4,f4];refine Dk.seesIn_none fun j hj=>?_
    have:j=0:=by simp at hj;exact hj
    subst this;show(5:Int)≠6+(i:Int);omega
   have h2:=Dk.last_sees hEfit (k:=6+i) (by rw[hEsz];omega);unfold Dk.sees;rw[h1,Option.getD_none,Dk.sector_eq,g1,f1,show(6+(i:Int)).toNat=6+i by omega,h2];unfold Dk.sees;rw[e4];show(Dk.seesIn (rowsFrom 6 AI.rows) ((6+i:Nat):Int)).getD _=_;rw[show((6+i:Nat):Int)=6+(i:Int) by omega]
   rcases Nat.lt_or_ge i 3 with h3|h3
   · rw[GS _ _ i (by rw[hrl];exact h3),Option.getD_some,List.getD_eq_getElem?_getD,List.getElem?_eq_getElem (by rw[hrl];exact h3),Option.getD_some]
   · rw[GT _ _ _ (by rw[hrl];omega),Option.getD_none,Dk.sector_eq,e1,<-Dk.sector_eq,Iv (by omega),List.getD_eq_getElem?_getD,List.getElem?_eq_none (by rw[hrl];exact h3),Option.getD_none]
  unfold Dk.read;rw[if_neg (by rw[g3,f3];simp),if_neg (by rw[ht];simp),if_neg (by rw[g2,f2];simp),hs]
 have hall:(jrAll G).2=0:=CF fun i hi=>by rw[hread i hi]
 obtain⟨hlen,hget⟩:=Ck hall;have hscan:jrScan G=(jrFound (jrAll G).1 G.sz,0):=by unfold jrScan;rw[if_neg (by rw[hall];simp)]
 change (jrAll G).1.length=81 at hlen
 have hget:∀i:Nat,i<81->(jrAll G).1[i]? =some (AI.rows.getD i (List.replicate 64 0)):=fun i hi=>by
  have h:=(hget i hi).2;rw[hread i hi]at h;exact h
 rw[hscan];generalize (jrAll G).1=R at*;have hR3:R=AI.rows++R.drop 3:=by
  have h3:R.take 3=AI.rows:=?_
  · conv=>lhs;rw[<-List.take_append_drop 3 R,h3]
  apply List.ext_getElem?
  intro i
  rcases Nat.lt_or_ge i 3 with h3|h3
  · rw[List.getElem?_take,if_pos h3,hget i (by omega),List.getD_eq_getElem?_getD,List.getElem?_eq_getElem (by rw[hrl];exact h3),Option.getD_some]
  · rw[List.getElem?_eq_none (by rw[List.length_take];omega),List.getElem?_eq_none (by rw[hrl];exact h3)]
 have hread0:txRead R=(AI,0):=by rw[hR3];exact Tx.read_rows DM (by decide) _
 have hno:∀i,1<=i->i<80+1->hcount ((R.drop i).headD [])=0:=fun i h1 h2=>by
  have hi:i<R.length:=by rw[hlen];exact h2
  have e:=hget i h2;rw[List.getElem?_eq_getElem hi]at e;have e:=Option.some.inj e;rw[List.drop_eq_getElem_cons hi,List.headD_cons,e];apply LF
  rcases Nat.lt_or_ge i 3 with h3|h3
  · have:i=1\/i=2:=by omega
    rcases this with rfl|rfl
    · rw[DO];decide
    · rw[DO];decide
  · have h5:AI.rows[i]? =.none:=List.getElem?_eq_none (by rw[hrl];exact h3);rw[List.getD_eq_getElem?_getD,h5,Option.getD_none];decide
 have hff:jrFound R G.sz=[(0,AI)]:=by
  unfold jrFound;refine Kg (n:=80) (f:=jrIn R G.sz) (b:=(0,AI)) ?_ fun i h1 h2=>?_
  · unfold jrIn;rw[List.drop_zero,hread0];refine if_pos ⟨rfl,fun k hk=>?_⟩;obtain rfl:k=5:=List.mem_singleton.1 hk;rw[hGsz];decide
  · unfold jrIn;rw[if_neg];rintro⟨h,_⟩;exact NB (hno i h1 h2) h
 rw[hff]
end
section
set_option linter.unusedVariables false
namespace Dk
def Can (D:Dk)(P:List (Int×List UInt8)):Prop:=∀x∈P,D.there x.1=true/\x.1∉D.bad/\x.2.length=64
theorem Can.of {D E:Dk}{P:List (Int×List UInt8)}(h:D.Can P)(h1:E.data.length=D.data.length)(h2:E.bad=D.bad):E.Can P:=fun x hx=>by
 obtain⟨a,b,c⟩:=h x hx;have e:E.sz=D.sz:=by unfold sz;rw[h1]
 exact⟨by unfold there at a ⊢;rw[e];exact a,by rw[h2];exact b,c⟩
theorem FS:∀(P:List (Int×List UInt8)){D:Dk},D.off=false->D.Can P->D.cache.length+P.length<=4096->
 ∃E e m,layIn P D=(E,e)/\m<=P.length/\E.data=D.data/\E.bad=D.bad/\E.cache=D.cache++P.take m/\(e=0\/e=12)/\(e=0->m=P.length/\E.off=false):=by
 intro P
 induction P with
 |nil=>intro D h1 _ _;exact⟨D,0,0,rfl,Nat.le_refl _,rfl,rfl,(List.append_nil _).symm,.inl rfl,fun _=>⟨rfl,h1⟩⟩
 |cons x P ih=>
  intro D h1 h3 h4;obtain⟨a,b,c⟩:=h3 x List.mem_cons_self;simp only[List.length_cons]at h4;by_cases hfu:D.fuse=0
  · have e:D.write x.1 x.2=({D with off:=true},12):=by
     unfold write;rw[if_neg (by rw[h1];simp),if_neg (by rw[a];simp),if_neg (by omega),if_pos hfu]
    refine⟨{D with off:=true},12,0,?_,Nat.zero_le _,rfl,rfl,(List.append_nil _).symm,.inr rfl,(fun h=>absurd h (by decide))⟩;rw[layIn,e,if_pos (by simp)]
  · have e:D.write x.1 x.2=(D.put x.1 x.2,0):=by
     unfold write;rw[if_neg (by rw[h1];simp),if_neg (by rw[a];simp),if_neg (by omega),if_neg hfu,if_neg b,if_neg (by omega)];rfl
    obtain⟨E,e',m,i1,i2,i3,i4,i5,i6,i7⟩:=ih (D:=D.put x.1 x.2) h1 (fun y hy=>h3 y (List.mem_cons_of_mem _ hy)) (by rw[Df,List.length_append,List.length_singleton];omega);refine⟨E,e',m+1,?_,by rw[List.length_cons];omega,i3,i4,?_,i6,fun h=>⟨by rw[(i7 h).1];rfl,(i7 h).2⟩⟩
    · rw[layIn,e,if_neg (by simp)];exact i1
    · rw[i5,Df,List.append_assoc];rfl
theorem Fy {D:Dk}(h:D.off=false):(D.flush=({D with off:=true},12))\/∃E,D.flush=(E,0)/\E.data=(D.last fun _=>true)/\E.cache=[]/\E.bad=D.bad/\E.off=false:=by
 rcases Ks D h with e|e
 · exact .inl e
 · exact .inr ⟨_,e,rfl,rfl,rfl,h⟩
theorem Oc (D:Dk)(P:List (Int×List UInt8)){E:Dk}(h1:E.data=D.data)(h2:E.cache=D.cache++P)(k:Int):E.sees k=(seesIn P k).getD (D.sees k):=by
 unfold sees;rw[h2,Oa];cases seesIn P k with
 |some s=>rfl
 |none=>unfold sector;rw[h1];rfl
theorem Fz {D E:Dk}(hf:D.fit=true)(h1:E.data=(D.last fun _=>true))(h2:E.cache=[]){k:Nat}(hk:k<D.sz):E.sees k=D.sees k:=by
 rw[GU h2,h1,last_sees hf hk]
theorem Dp {E:Dk}(h2:E.cache=[])(k:Nat):E.sees k=E.sector k:=by rw[GU h2,sector_eq]
end Dk
open Dk
theorem IW {D:Dk}(hf:D.fit=true)(ho:D.off=false)(k:Int)(R:List (List UInt8))(M:Pn)(hR:D.Can (rowsFrom k R))(hM:D.Can (M.targets.zip M.data))(hl:R.length<=27)(hm:M.targets.length<=24):
 ∃E e,comSteps D k R M=(E,e)/\(e=0\/e=12)/\E.bad=D.bad/\E.data.length=D.data.length/\(e=0->E.off=false)/\
  ((e≠0/\E.data=D.data/\E.cache=D.cache)\/
   (e≠0/\(∀i:Nat,i<D.sz->E.sector i=D.sees i)/\∀x∈E.cache,x∈rowsFrom k R)\/
   ((∀i:Nat,i<D.sz->E.sector i=(seesIn (rowsFrom k R) i).getD (D.sees i))/\∃n,E.cache=(M.targets.zip M.data).take n/\(e=0->n=(M.targets.zip M.data).length))):=by
 unfold comSteps
 rcases Fy ho with e|⟨A,e,a1,a2,a3,a4⟩
 · rw[e,C4,C4,C4];exact⟨_,_,rfl,.inr rfl,rfl,rfl,(fun h=>absurd h (by decide)),.inl ⟨by decide,rfl,rfl⟩⟩
 rw[e,next_mk];have hAf:A.fit=true:=by have:=flush_fit hf;rw[e]at this;exact this
 have hAl:A.data.length=D.data.length:=by
  obtain⟨_,_,hl,_⟩:=fit_parts hf;rw[a1,hl];exact lastN_length hf _ _
 have hAsz:A.sz=D.sz:=by unfold sz;rw[hAl]
 have hAs:∀i:Nat,i<D.sz->A.sees i=D.sees i:=fun i hi=>Fz hf a1 a2 hi
 obtain⟨B,eb,m,b1,b2,b3,b4,b5,b6,b7⟩:=FS (rowsFrom k R) (D:=A) a4 (hR.of hAl a3) (by rw[a2,A4];simp only[List.length_nil];omega);rw[a2,List.nil_append]at b5;show∃E e,next (next (layIn (rowsFrom k R) A) flush) _=(E,e)/\_;rw[b1];by_cases hb0:eb=0
 · obtain⟨b8,b9⟩:=b7 hb0;rw[next_zero (X:=(B,eb)) hb0];have hBf:B.fit=true:=by have:=layIn_fit (l:=rowsFrom k R) hAf;rw[b1]at this;exact this
   have hBl:B.data.length=D.data.length:=by rw[b3,hAl]
   have hBsz:B.sz=D.sz:=by unfold sz;rw[hBl]
   have b5:B.cache=rowsFrom k R:=by rw[b5,b8,List.take_length]
   rcases Fy b9 with e2|⟨G,e2,g1,g2,g3,g4⟩
   · show∃E e,next (flush B) _=(E,e)/\_;rw[e2,C4];refine⟨_,_,rfl,.inr rfl,b4.trans a3,hBl,(fun h=>absurd h (by decide)),.inr (.inl ⟨by decide,fun i hi=>?_,fun x hx=>?_⟩)⟩
     · rw[<-hAs i hi,Dp a2];show B.sector i=_;rw[sector_eq,sector_eq,b3]
     · have:x∈B.cache:=hx
       rwa [b5]at this
   · show∃E e,next (flush B) _=(E,e)/\_;rw[e2,next_mk];have hGs:∀i:Nat,i<D.sz->G.sector i=(seesIn (rowsFrom k R) i).getD (D.sees i):=fun i hi=>by
      rw[<-Dp g2,Fz hBf g1 g2 (by rw[hBsz];exact hi),Oc A (rowsFrom k R) b3 (by rw[a2];exact b5),hAs i hi]
     have hGl:G.data.length=D.data.length:=by
      obtain⟨_,_,hl,_⟩:=fit_parts hBf;rw[g1,<-hBl,hl];exact lastN_length hBf _ _
     obtain⟨E,ee,n,i1,i2,i3,i4,i5,i6,i7⟩:=FS (M.targets.zip M.data) (D:=G) g4 (hM.of hGl (g3.trans (b4.trans a3))) (by rw[g2,List.length_zip];simp only[List.length_nil];omega);refine⟨E,ee,i1,i6,i4.trans (g3.trans (b4.trans a3)),by rw[i3,hGl],fun h=>(i7 h).2,.inr (.inr ⟨fun i hi=>?_,n,by rw[i5,g2];rfl,fun h=>(i7 h).1⟩)⟩;rw[<-hGs i hi,sector_eq,sector_eq,i3]
 · rw[next_err (X:=(B,eb)) hb0,next_err (X:=(B,eb)) hb0];refine⟨_,_,rfl,b6,b4.trans a3,by rw[b3,hAl],fun h=>absurd h hb0,.inr (.inl ⟨hb0,fun i hi=>?_,fun x hx=>?_⟩)⟩
   · rw[<-hAs i hi,Dp a2,sector_eq,sector_eq,b3]
   · rw[b5]at hx;exact List.mem_of_mem_take hx
theorem IX {D:Dk}(hf:D.fit=true)(ho:D.off=false)(hfu:D.fuse<0)(k:Int)(R:List (List UInt8))(M:Pn)(hR:D.Can (rowsFrom k R))(hM:D.Can (M.targets.zip M.data))(hl:R.length<=27)(hm:M.targets.length<=24):
 (comSteps D k R M).2=0/\(comSteps D k R M).1.fuse<0:=by
 unfold comSteps;have e:=flush_do ho hfu;obtain⟨A,hA⟩:∃A,({D with data:=D.last fun _=>true,cache:=[]}:Dk).burnt=A:=⟨_,rfl⟩;rw[hA]at e;have a1:A.data=D.last fun _=>true:=by rw[<-hA];rfl
 have a2:A.cache=[]:=by rw[<-hA];rfl
 have a3:A.bad=D.bad:=by rw[<-hA];rfl
 have a4:A.off=false:=by rw[<-hA];exact ho
 have a5:A.fuse<0:=by rw[<-hA];exact DH hfu
 have hAf:A.fit=true:=by have:=flush_fit hf;rw[e]at this;exact this
 have hAl:A.data.length=D.data.length:=by
  obtain⟨_,_,hl,_⟩:=fit_parts hf;rw[a1,hl];exact lastN_length hf _ _
 rw[e,next_mk];obtain⟨B,b1,b2⟩:=layIn_do (rowsFrom k R) a4 a5 (hR.of hAl a3) (by rw[a2,A4];simp only[List.length_nil];omega);obtain⟨b3,b4,b5,b6,_⟩:=layIn_spec _ b1;have hBf:B.fit=true:=by have:=layIn_fit (l:=rowsFrom k R) hAf;rw[b1]at this;exact this
 show(next (next (layIn (rowsFrom k R) A) flush) _).2=0/\(next (next (layIn (rowsFrom k R) A) flush) _).1.fuse<0;rw[b1,next_mk];have e2:=flush_do (b5.trans a4) b2;obtain⟨G,hG⟩:∃G,({B with data:=B.last fun _=>true,cache:=[]}:Dk).burnt=G:=⟨_,rfl⟩;rw[hG]at e2;show(next (flush B) _).2=0/\(next (flush B) _).1.fuse<0;rw[e2,next_mk];have g1:G.data=B.last fun _=>true:=by rw[<-hG];rfl
 have hGl:G.data.length=D.data.length:=by
  obtain⟨_,_,hl,_⟩:=fit_parts hBf;rw[g1,<-hAl,<-b3,hl];exact lastN_length hBf _ _
 obtain⟨E,i1,i2⟩:=layIn_do (M.targets.zip M.data) (D:=G) (by rw[<-hG];exact b5.trans a4) (by rw[<-hG];exact DH b2) (hM.of hGl (by rw[<-hG];exact b4.trans a3)) (by rw[<-hG,List.length_zip];simp only[DG,List.length_nil];omega);have i1':Pn.lay G M=(E,0):=i1;show(Pn.lay G M).2=0/\(Pn.lay G M).1.fuse<0;rw[i1'];exact⟨rfl,i2⟩
structure Quiet (D:Dk):Prop where
 off:D.off=false
 bad:D.bad=[]
 fit:D.fit=true
 big:112<=D.sz
theorem Quiet.read {D:Dk}(h:Quiet D){k:Nat}(hk:k<D.sz):D.read (k:Int)=(D.sees k,0):=by
 have ht:D.there (k:Int)=true:=by unfold there;simp;omega
 unfold Dk.read;rw[if_neg (by rw[h.off];simp),if_neg (by rw[ht];simp),if_neg (by rw[h.bad];simp)]
theorem Quiet.all {D:Dk}(h:Quiet D):(jrAll D).2=0/\(jrAll D).1.length=81/\∀i:Nat,i<81->(jrAll D).1[i]? =some (D.sees ((6+i:Nat):Int)):=by
 have hb:=h.big;have hr:∀i:Nat,i<81->D.read (6+(i:Int))=(D.sees ((6+i:Nat):Int),0):=fun i hi=>by
  rw[show(6+(i:Int))=((6+i:Nat):Int) by omega];exact h.read (by omega)
 have h0:(jrAll D).2=0:=CF fun i hi=>by rw[hr i hi]
 obtain⟨h1,h2⟩:=Ck h0;refine⟨h0,h1,fun i hi=>?_⟩;have:=(h2 i hi).2
 rwa [hr i hi]at this
end
section
set_option linter.unusedVariables false
open Dk
def Outside (n:Nat)(L:Pn):Prop:=∀k∈L.targets,¬(6<=k/\k<87)/\k<(n:Int)
theorem Pn.Fit.zip_can {L:Pn}(h:L.Fit){D:Dk}(ho:Outside D.sz L)(hb:D.bad=[]):D.Can (L.targets.zip L.data):=fun x hx=>by
 obtain⟨h1,h2⟩:=List.of_mem_zip (a:=x.1) (b:=x.2) hx;obtain⟨i,hi,e⟩:=List.getElem_of_mem h1;obtain⟨j,hj,e2⟩:=List.getElem_of_mem h2;have hs:=(h.2.2.1 i hi).1;rw[e]at hs;simp only[sectorOk,Bool.and_eq_true,decide_eq_true_eq]at hs;have hk:=ho x.1 h1;refine⟨?_,by rw[hb];exact(fun h=>nomatch h),by rw[<-e2];exact h.2.2.2 j hj⟩;unfold there;simp only[Bool.and_eq_true,decide_eq_true_eq];exact⟨hs.1,hk.2⟩
structure First (D D1:Dk) (L:Pn) (j1:Jr):Prop where
 quiet:Quiet D1
 sz:D1.sz=D.sz
 cache:D1.cache=L.targets.zip L.data
 out:∀k:Nat,k<D.sz->¬(6<=k/\k<87)->D1.sector k=D.sees k
 fit:jrFit j1=true
 pos:j1.pos<=27
 none:L.targets=[]->j1=⟨1,0⟩
 some:L.targets≠[]->j1.seq=2/\j1.pos=(jrRows ⟨1,0⟩ L).length/\∀i (h:i<(jrRows ⟨1,0⟩ L).length),D1.sector (6+i)=(jrRows ⟨1,0⟩ L)[i]
theorem NK {D:Dk}(h:Quiet D){j:Jr}{L:Pn}(hL:L.Fit)(h0:L.targets≠[]):D.Can (rowsFrom (6+jrAt j L) (jrRows j L)):=fun x hx=>by
 obtain⟨i,hi,rfl⟩:=GI _ _ x hx;have hok:(⟨j.seq,L⟩:Tx).Ok:=⟨hL,h0⟩;have e:jrRows j L=(⟨j.seq,L⟩:Tx).rows:=by unfold jrRows Tx.write;rw[if_pos hok]
 have hl:(jrRows j L).length<=27:=Dx _;have hat:0<=jrAt j L/\jrAt j L+(jrRows j L).length<=81:=CV (by omega) (by omega);have hb:=h.big;refine⟨?_,by rw[h.bad];exact(fun h=>nomatch h),?_⟩
 · unfold there;simp only[Bool.and_eq_true,decide_eq_true_eq];omega
 · show(jrRows j L)[i].length=64;have:=Tx.rows_64 hok (jrRows j L)[i] (by rw[<-e];exact List.getElem_mem hi);exact this
theorem first {D:Dk}(h:Quiet D)(hc:D.cache=[])(hfu:D.fuse<0){L:Pn}(hL:L.Fit)(ho:Outside D.sz L):∃D1 j1,jrCommit D ⟨1,0⟩ L=(D1,j1,0)/\First D D1 L j1:=by
 by_cases h0:L.targets=[]
 · refine⟨D,⟨1,0⟩,by unfold jrCommit;rw[if_pos h0],h,rfl,by rw[hc,h0];rfl,fun k _ _=>(Dp hc k).symm,by decide,by decide,fun _=>rfl,fun hn=>absurd h0 hn⟩
 have hl:(jrRows ⟨1,0⟩ L).length<=27:=Dx _;have hat:jrAt ⟨1,0⟩ L=0:=by
  unfold jrAt jrPlace
  split
  · rfl
  · rfl
 have hcr:=NK h (j:=⟨1,0⟩) hL h0;have hcz:=hL.zip_can ho h.bad;obtain⟨E,e,c1,c2,c3,c8,c4,c5⟩:=IW h.fit h.off (6+jrAt ⟨1,0⟩ L) (jrRows ⟨1,0⟩ L) L hcr hcz hl hL.2.1;obtain⟨d1,d2⟩:=IX h.fit h.off hfu (6+jrAt ⟨1,0⟩ L) (jrRows ⟨1,0⟩ L) L hcr hcz hl hL.2.1;have hEf:(comSteps D (6+jrAt ⟨1,0⟩ L) (jrRows ⟨1,0⟩ L) L).1.fit=true:=E6 h.fit _ _ _;rw[c1]at d1 hEf;have he:e=0:=d1;have hEf:E.fit=true:=hEf;subst he
 rcases c5 with c5|c5|⟨c5,n,c6,c7⟩
 · exact absurd rfl c5.1
 · exact absurd rfl c5.1
 have c6:E.cache=L.targets.zip L.data:=by rw[c6,c7 rfl,List.take_length]
 have hsz:E.sz=D.sz:=by
  unfold sz;rw[c8]
 have hrw:∀k:Nat,(k:Int)<6\/6+((jrRows ⟨1,0⟩ L).length:Int)<=k->seesIn (rowsFrom (6+jrAt ⟨1,0⟩ L) (jrRows ⟨1,0⟩ L)) k=.none:=fun k hk=>by
  rw[hat,Int.add_zero];exact GT _ _ _ hk
 refine⟨E,⟨2,(jrRows ⟨1,0⟩ L).length⟩,?_,⟨c4 rfl,c3.trans h.bad,hEf,by rw[hsz];exact h.big⟩,hsz,c6,fun k hk hj=>?_,?_,?_,fun hn=>absurd hn h0,fun _=>⟨rfl,rfl,fun i hi=>?_⟩⟩
 · unfold jrCommit;rw[if_neg h0,if_neg (by decide),c1,if_neg (by simp),hat,Int.zero_add]
 · rw[c5 k hk,hrw k (by omega)];rfl
 · rw[D7];show 1<=2/\2<=4611686018427387904/\(0:Int)<=(jrRows ⟨1,0⟩ L).length/\((jrRows ⟨1,0⟩ L).length:Int)<=81;omega
 · show((jrRows ⟨1,0⟩ L).length:Int)<=27;omega
 · have hb:=h.big;rw[c5 _ (by omega),hat,Int.add_zero,show((6+i:Nat):Int)=6+(i:Int) by omega,GS _ _ i hi];rfl
end
end Go.Proofs.YtmiilfnchfdfcaaGreatDoor
