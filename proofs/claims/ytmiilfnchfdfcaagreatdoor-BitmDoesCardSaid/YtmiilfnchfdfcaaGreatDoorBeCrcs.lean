/- Be: PointPlain, JourPlain, Packs, PackName, RootPlain, ImgPlain, Blk3, Crcs. -/
import Derived.Test.YtmiilfnchfdfcaaGreatDoorBeTableLaw
import Derived.Test.YtmiilfnchfdfcaaGreatDoorRows
import Derived.Test.YtmiilfnchfdfcaaGreatDoorShelf
import Derived.Lib.ConvBytes
import Derived.Laws.DeepNot64
import Derived.Lib.LazyBuf
set_option maxRecDepth 100000
set_option maxHeartbeats 40000000
set_option linter.unusedVariables false
namespace Go.Proofs.YtmiilfnchfdfcaaGreatDoor
section
def magicR:List UInt8:=[67,79,70,82]
def rtBody (l n:Nat):List UInt8:=magicR++be 2 l++be 4 n
def rtHead (l n:Nat):List UInt8:=At (rtBody l n++be 4 (crcOf (rtBody l n)))
theorem In (l n:Nat):(rtBody l n).length=10:=by simp[rtBody,magicR,Ar]
theorem O0 (l n:Nat):(rtHead l n).length=64:=CH (by simp[In,Ar])
def rtOf (s:List UInt8):(Nat×Nat)×Int:=
 if s.take 4≠magicR then((0,0),14)else if be 4 (crcOf (s.take 10))≠(s.drop 10).take 4 then((0,0),15)
 else if 256<=un ((s.drop 4).take 2)\/rtHead (un ((s.drop 4).take 2)) (un ((s.drop 6).take 4))≠s then((0,0),14)else((un ((s.drop 4).take 2),un ((s.drop 6).take 4)),0)
def Pn.rtGet (D:Dk)(L:Pn):(Nat×Nat)×Int:=if(Pn.look D L 1).2≠0 then((0,0),(Pn.look D L 1).2)else rtOf (Pn.look D L 1).1
namespace Pn
def step (s:Pn×Int)(f:Pn->Pn×Int):Pn×Int:=if s.2≠0 then s else f s.1
theorem step_zero {s:Pn×Int}{f:Pn->Pn×Int}(h:s.2=0):step s f=f s.1:=by unfold step;rw[if_neg (by rw[h];simp)]
theorem step_err {s:Pn×Int}{f:Pn->Pn×Int}(h:s.2≠0):step s f=s:=by unfold step;rw[if_pos h]
theorem DO {s:Pn×Int}{f:Pn->Pn×Int}(h:s.1.Fit)(hf:∀X:Pn,X.Fit->(f X).1.Fit):(step s f).1.Fit:=by
 unfold step
 split
 · exact h
 · exact hf _ h
def freshSteps (D:Dk)(L:Pn)(h l1 i f:Int):Pn×Int:=
 step (step (step ((alTake D L h).1,(alTake D L h).2.2) fun X=>if f<0 then tabBlank X (alTake D L h).2.1 else tabCopy D X f (alTake D L h).2.1) fun X=>if f<0 then(X,0)else cntAdd D X f (-1)) fun X=>tabSet D X l1 i 1 (alTake D L h).2.1
def ptFresh (D:Dk)(L:Pn)(h l1 i f:Int):Pn×Int×Int:=if(freshSteps D L h l1 i f).2≠0 then(L,0,(freshSteps D L h l1 i f).2)else((freshSteps D L h l1 i f).1,(alTake D L h).2.1,0)
def ptOwn (D:Dk)(L:Pn)(g h u:Int):Pn×Int×Int:=
 if u<0\/g<=u then(L,0,10)else if(rtGet D L).2≠0 then(L,0,(rtGet D L).2)
 else if(tabGet D L (rtGet D L).1.1 (u/16)).2≠0 then(L,0,(tabGet D L (rtGet D L).1.1 (u/16)).2)
 else if(tabGet D L (rtGet D L).1.1 (u/16)).1.1=2 then(L,0,14)
 else if(tabGet D L (rtGet D L).1.1 (u/16)).1.1=0 then ptFresh D L h (rtGet D L).1.1 (u/16) (-1)
 else if(cntGet D L (tabGet D L (rtGet D L).1.1 (u/16)).1.2).2≠0 then(L,0,(cntGet D L (tabGet D L (rtGet D L).1.1 (u/16)).1.2).2)
 else if(cntGet D L (tabGet D L (rtGet D L).1.1 (u/16)).1.2).1<=1 then(L,(tabGet D L (rtGet D L).1.1 (u/16)).1.2,0)
 else ptFresh D L h (rtGet D L).1.1 (u/16) (tabGet D L (rtGet D L).1.1 (u/16)).1.2
def putSteps (D:Dk)(X:Pn)(t u K A:Int):Pn×Int:=step (if(tabGet D X t (u%16)).1.1=1 then cntAdd D X (tabGet D X t (u%16)).1.2 (-1)else(X,0)) fun Y=>tabSet D Y t (u%16) K A
def ptPoint (D:Dk)(L:Pn)(g h u K A:Int):Pn×Int:=
 if(ptOwn D L g h u).2.2≠0 then(L,(ptOwn D L g h u).2.2)
 else if(tabGet D (ptOwn D L g h u).1 (ptOwn D L g h u).2.1 (u%16)).2≠0 then(L,(tabGet D (ptOwn D L g h u).1 (ptOwn D L g h u).2.1 (u%16)).2)
 else if(putSteps D (ptOwn D L g h u).1 (ptOwn D L g h u).2.1 u K A).2≠0 then(L,(putSteps D (ptOwn D L g h u).1 (ptOwn D L g h u).2.1 u K A).2)
 else((putSteps D (ptOwn D L g h u).1 (ptOwn D L g h u).2.1 u K A).1,0)
variable {D:Dk} {L X:Pn}
theorem cntAdd_fit (hD:D.fit=true)(hL:L.Fit)(k b:Int):(cntAdd D L k b).1.Fit:=by
 by_cases h:(cntAdd D L k b).2=0
 · exact(JV hD hL (X:=(cntAdd D L k b).1) (Prod.ext rfl h)).2.2.2.2.2.1
 · rw[JU h];exact hL
theorem IV (hD:D.fit=true)(hL:L.Fit)(t i K A:Int):(tabSet D L t i K A).1.Fit:=by
 by_cases h:(tabSet D L t i K A).2=0
 · exact(Qm hD hL (X:=(tabSet D L t i K A).1) (Prod.ext rfl h)).1
 · rw[Ql h];exact hL
theorem tabBlank_fit (hL:L.Fit)(t:Int):(tabBlank L t).1.Fit:=by
 by_cases h:(tabBlank L t).2=0
 · exact(Qe (D:=⟨[],[],0,false,[]⟩) hL (X:=(tabBlank L t).1) (Prod.ext rfl h)).1
 · rw[Qd h];exact hL
theorem tabCopy_fit (hL:L.Fit)(f t:Int):(tabCopy D L f t).1.Fit:=by
 by_cases h:(tabCopy D L f t).2=0
 · exact(Qg hL (X:=(tabCopy D L f t).1) (Prod.ext rfl h)).1
 · rw[Qf h];exact hL
theorem alTake_fit (hD:D.fit=true)(hL:L.Fit)(h:Int):(alTake D L h).1.Fit:=by
 rcases Fj D L h with ⟨k,X,_,h2,_,_,h5⟩|⟨_,h2,_⟩
 · rw[h2];have:=cntAdd_fit hD hL (k:Int) 1;rw[h5]at this;exact this
 · rw[h2];exact hL
theorem alTake_small {h:Int}(hh:h<=256):0<=(alTake D L h).2.1/\(alTake D L h).2.1<256:=by
 rcases Fj D L h with ⟨k,X,h1,h2,_,_,_⟩|⟨_,_,h2⟩
 · rw[h2];show(0:Int)<=(k:Int)/\(k:Int)<256;omega
 · rw[h2];decide
theorem LD (hD:D.fit=true)(hL:L.Fit)(h l1 i f:Int):(freshSteps D L h l1 i f).1.Fit:=
 DO (DO (DO (alTake_fit hD hL h) fun X hX=>by split;exact tabBlank_fit hX _;exact tabCopy_fit hX _ _) fun X hX=>by split;exact hX;exact cntAdd_fit hD hX _ _) fun X hX=>IV hD hX _ _ _ _
theorem Hd (hD:D.fit=true)(hL:L.Fit)(h l1 i f:Int):(ptFresh D L h l1 i f).1.Fit:=by
 unfold ptFresh
 split
 · exact hL
 · exact LD hD hL h l1 i f
theorem ptOwn_fit (hD:D.fit=true)(hL:L.Fit)(g h u:Int):(ptOwn D L g h u).1.Fit:=by
 unfold ptOwn
 split;exact hL
 split;exact hL
 split;exact hL
 split;exact hL
 split;exact Hd hD hL ..
 split;exact hL
 split;exact hL
 exact Hd hD hL ..
theorem No (hD:D.fit=true)(hX:X.Fit)(t u K A:Int):(putSteps D X t u K A).1.Fit:=
 DO (by split;exact cntAdd_fit hD hX _ _;exact hX) fun Y hY=>IV hD hY _ _ _ _
theorem ptPoint_fit (hD:D.fit=true)(hL:L.Fit)(g h u K A:Int):(ptPoint D L g h u K A).1.Fit:=by
 unfold ptPoint
 split;exact hL
 split;exact hL
 split;exact hL
 exact No hD (ptOwn_fit hD hL g h u) _ _ _ _
end Pn
end
section
namespace Pn
theorem IK (s:Pn×Int)(f:Pn->Pn×Int):step s f=step s fun _=>f s.1:=by unfold step;rfl
theorem freshSteps_new (D:Dk)(X:Pn)(h l i:Int):freshSteps D X h l i (-1)=step (step ((alTake D X h).1,(alTake D X h).2.2) fun _=>tabBlank (alTake D X h).1 (alTake D X h).2.1) fun Y=>tabSet D Y l i 1 (alTake D X h).2.1:=by
 unfold freshSteps;have e1:(fun X':Pn=>if(-1:Int)<0 then tabBlank X' (alTake D X h).2.1 else tabCopy D X' (-1) (alTake D X h).2.1)=fun X'=>tabBlank X' (alTake D X h).2.1:=by funext x;rw[if_pos (by decide)]
 have e2:(fun X':Pn=>if(-1:Int)<0 then(X',(0:Int))else cntAdd D X' (-1) (-1))=fun X'=>(X',0):=by funext x;rw[if_pos (by decide)]
 rw[e1,e2,<-IK ((alTake D X h).1,(alTake D X h).2.2) fun X'=>tabBlank X' (alTake D X h).2.1];generalize step ((alTake D X h).1,(alTake D X h).2.2) (fun X'=>tabBlank X' (alTake D X h).2.1)=T;have e3:step T (fun X'=>(X',0))=T:=by
  by_cases h0:T.2=0
  · rw[step_zero h0];exact Prod.ext rfl h0.symm
  · rw[step_err h0]
 rw[e3]
theorem freshSteps_old (D:Dk)(X:Pn)(h l i f:Int)(hf:0<=f):freshSteps D X h l i f=step (step (step ((alTake D X h).1,(alTake D X h).2.2) fun _=>tabCopy D (alTake D X h).1 f (alTake D X h).2.1) fun Y=>cntAdd D Y f (-1)) fun Y=>tabSet D Y l i 1 (alTake D X h).2.1:=by
 unfold freshSteps;have e1:(fun X':Pn=>if f<0 then tabBlank X' (alTake D X h).2.1 else tabCopy D X' f (alTake D X h).2.1)=fun X'=>tabCopy D X' f (alTake D X h).2.1:=by funext x;rw[if_neg (by omega)]
 have e2:(fun X':Pn=>if f<0 then(X',(0:Int))else cntAdd D X' f (-1))=fun X'=>cntAdd D X' f (-1):=by funext x;rw[if_neg (by omega)]
 rw[e1,e2,<-IK ((alTake D X h).1,(alTake D X h).2.2) fun X'=>tabCopy D X' f (alTake D X h).2.1]
theorem ptOwn_out {D:Dk}{L:Pn}{g h u:Int}(hu:u<0\/g<=u):ptOwn D L g h u=(L,0,10):=by rw[ptOwn,if_pos hu]
theorem LC {D:Dk}{X:Pn}{h l i f:Int}(he:(alTake D X h).2.2≠0):freshSteps D X h l i f=((alTake D X h).1,(alTake D X h).2.2):=by
 unfold freshSteps;rw[step_err (s:=((alTake D X h).1,(alTake D X h).2.2)) he,step_err (s:=((alTake D X h).1,(alTake D X h).2.2)) he,step_err (s:=((alTake D X h).1,(alTake D X h).2.2)) he]
theorem ptFresh_take {D:Dk}{X:Pn}{h l i f:Int}(he:(alTake D X h).2.2≠0):ptFresh D X h l i f=(X,0,(alTake D X h).2.2):=by
 unfold ptFresh;rw[LC he,if_pos he]
theorem ptPoint_own {D:Dk}{L:Pn}{g h u K A:Int}(he:(ptOwn D L g h u).2.2≠0):ptPoint D L g h u K A=(L,(ptOwn D L g h u).2.2):=by rw[ptPoint,if_pos he]
theorem ptPoint_in {D:Dk}{L:Pn}{g h u K A:Int}(he:(ptOwn D L g h u).2.2=0):ptPoint D L g h u K A=if(tabGet D (ptOwn D L g h u).1 (ptOwn D L g h u).2.1 (u%16)).2≠0 then(L,(tabGet D (ptOwn D L g h u).1 (ptOwn D L g h u).2.1 (u%16)).2)
 else if(putSteps D (ptOwn D L g h u).1 (ptOwn D L g h u).2.1 u K A).2≠0 then(L,(putSteps D (ptOwn D L g h u).1 (ptOwn D L g h u).2.1 u K A).2)
 else((putSteps D (ptOwn D L g h u).1 (ptOwn D L g h u).2.1 u K A).1,0):=by rw[ptPoint,if_neg (by rw[he];simp)]
end Pn
end
section
structure Jr where
 seq:Nat
 pos:Int
def Jr.none:Jr:=⟨1,0⟩
def jrFit (j:Jr):Bool:=decide (1<=j.seq)&&(decide (j.seq<=4611686018427387904)&&(decide (0<=j.pos)&&decide (j.pos<=81)))
def jrPlace (pos size:Int):Int:=if pos<0\/size<0\/81<size\/81-size<pos then 0 else pos
theorem Di {pos size:Int}(h0:0<=size)(h1:size<=81):0<=jrPlace pos size/\jrPlace pos size+size<=81:=by
 unfold jrPlace;split<;>omega
theorem Ev {j:Jr}:jrFit j=true↔1<=j.seq/\j.seq<=4611686018427387904/\0<=j.pos/\j.pos<=81:=by
 simp only[jrFit,Bool.and_eq_true,decide_eq_true_eq]
def rowsFrom:Int->List (List UInt8)->List (Int×List UInt8)
 |_,[]=>[]
 |k,s::l=>(k,s)::rowsFrom (k+1) l
theorem Bf:∀(l:List (List UInt8))(k:Int),(rowsFrom k l).length=l.length:=by
 intro l
 induction l with
 |nil=>intro k;rfl
 |cons s l ih=>intro k;rw[rowsFrom,List.length_cons,List.length_cons,ih]
theorem Cs:∀(l:List (List UInt8))(k:Int)(i:Nat)(h:i<l.length),(rowsFrom k l)[i]'(by rw[Bf];exact h)=(k+i,l[i]):=by
 intro l
 induction l with
 |nil=>intro k i h;simp at h
 |cons s l ih=>
  intro k i h;cases i with
  |zero=>simp[rowsFrom]
  |succ i=>
   simp only[rowsFrom,List.getElem_cons_succ];rw[ih (k+1) i (by simpa using h)];simp only[Prod.mk.injEq,and_true];omega
namespace Dk
theorem flush_fit {D:Dk}(h:D.fit=true):D.flush.1.fit=true:=by
 unfold flush
 split
 · exact h
 · split
   · exact Gp h rfl rfl rfl
   · exact flushed_fit h _
theorem write_fit {D:Dk}(h:D.fit=true)(k:Int)(s:List UInt8):(D.write k s).1.fit=true:=by
 unfold write
 split
 · exact h
 split
 · exact h
 split
 · exact h
 split
 · exact Gp h rfl rfl rfl
 split
 · exact h
 split
 · exact h
 · rename_i h1 h2 h3 h4 h5 h6
   exact Lv h (by omega) (by simpa using h2) (by omega)
theorem layIn_fit {l:List (Int×List UInt8)}:∀{D:Dk},D.fit=true->(layIn l D).1.fit=true:=by
 induction l with
 |nil=>intro D h;exact h
 |cons x l ih=>
  intro D h;rw[layIn]
  split
  · exact write_fit h _ _
  · exact ih (write_fit h _ _)
def next (X:Dk×Int)(f:Dk->Dk×Int):Dk×Int:=if X.2≠0 then X else f X.1
theorem next_zero {X:Dk×Int}{f:Dk->Dk×Int}(h:X.2=0):next X f=f X.1:=by unfold next;rw[if_neg (by rw[h];simp)]
theorem next_err {X:Dk×Int}{f:Dk->Dk×Int}(h:X.2≠0):next X f=X:=by unfold next;rw[if_pos h]
theorem next_fit {X:Dk×Int}{f:Dk->Dk×Int}(h:X.1.fit=true)(hf:∀D:Dk,D.fit=true->(f D).1.fit=true):(next X f).1.fit=true:=by
 unfold next;split
 · exact h
 · exact hf _ h
end Dk
def comSteps (D:Dk)(k:Int)(l:List (List UInt8))(L:Pn):Dk×Int:=Dk.next (Dk.next (Dk.next D.flush (Dk.layIn (rowsFrom k l))) Dk.flush) fun E=>Pn.lay E L
theorem FL {D:Dk}(h:D.fit=true)(k:Int)(l:List (List UInt8))(L:Pn):(comSteps D k l L).1.fit=true:=
 Dk.next_fit (Dk.next_fit (Dk.next_fit (Dk.flush_fit h) fun _=>Dk.layIn_fit) fun _=>Dk.flush_fit) fun _=>Dk.layIn_fit
noncomputable def jrRows (j:Jr) (L:Pn):List (List UInt8):=(⟨j.seq,L⟩:Tx).write.1
noncomputable def jrAt (j:Jr) (L:Pn):Int:=jrPlace j.pos (jrRows j L).length
noncomputable def jrCommit (D:Dk) (j:Jr) (L:Pn):Dk×Jr×Int:=
 if L.targets=[]then(D,j,0)else if 4611686018427387904<=j.seq then(D,j,10)
 else if(comSteps D (6+jrAt j L) (jrRows j L) L).2≠0 then((comSteps D (6+jrAt j L) (jrRows j L) L).1,j,(comSteps D (6+jrAt j L) (jrRows j L) L).2)
 else((comSteps D (6+jrAt j L) (jrRows j L) L).1,⟨j.seq+1,jrAt j L+(jrRows j L).length⟩,0)
theorem L9 {D:Dk}(h:D.fit=true)(j:Jr)(L:Pn):(jrCommit D j L).1.fit=true:=by
 unfold jrCommit
 split
 · exact h
 split
 · exact h
 split<;>exact FL h _ _ _
def jrAll (D:Dk):List (List UInt8)×Int:=allN (fun i:Nat=>D.read (6+(i:Int))) 81
open Classical in
noncomputable def jrIn (l:List (List UInt8)) (n:Int) (i:Nat):Option (Nat×Tx):=
 if(txRead (l.drop i)).2=0/\∀k∈(txRead (l.drop i)).1.plan.targets,k<n then some (i,(txRead (l.drop i)).1)else .none
noncomputable def jrFound (l:List (List UInt8)) (n:Int):List (Nat×Tx):=(List.range 81).filterMap (jrIn l n)
noncomputable def jrScan (D:Dk):List (Nat×Tx)×Int:=if(jrAll D).2≠0 then([],(jrAll D).2)else(jrFound (jrAll D).1 D.sz,0)
end
section
namespace Dk
theorem layIn_spec:∀(P:List (Int×List UInt8)){D E:Dk},layIn P D=(E,0)->E.data=D.data/\E.bad=D.bad/\E.off=D.off/\E.cache=D.cache++P/\∀x∈P,D.there x.1=true/\x.1∉D.bad/\x.2.length=64:=by
 intro P
 induction P with
 |nil=>intro D E h;injection h with h _;subst h;exact⟨rfl,rfl,rfl,(List.append_nil _).symm,fun x hx=>by cases hx⟩
 |cons x P ih=>
  intro D E h;rw[layIn]at h
  split at h
  · rename_i h1;rw[h]at h1;exact absurd rfl h1
  · rename_i h1
    obtain⟨e,h2,h3,h4,h5,_⟩:=Rc (D:=D) (k:=x.1) (s:=x.2) (by simpa using h1);rw[e]at h;obtain⟨i1,i2,i3,i4,i5⟩:=ih h;refine⟨i1,i2,i3,by rw[i4,Dy,List.append_assoc];rfl,fun y hy=>?_⟩
    rcases List.mem_cons.1 hy with rfl|hy
    · exact⟨h3,h4,h5⟩
    · exact i5 y hy
theorem Np {D:Dk}(h:D.fuse<0)(k:Int)(s:List UInt8):(D.put k s).fuse<0:=by
 show(if 0<D.fuse then D.fuse-1 else D.fuse)<0;rw[if_neg (by omega)];exact h
theorem layIn_do:∀(P:List (Int×List UInt8)){D:Dk},D.off=false->D.fuse<0->(∀x∈P,D.there x.1=true/\x.1∉D.bad/\x.2.length=64)->D.cache.length+P.length<=4096->∃E,layIn P D=(E,0)/\E.fuse<0:=by
 intro P
 induction P with
 |nil=>intro D _ h _ _;exact⟨D,rfl,h⟩
 |cons x P ih=>
  intro D h1 h2 h3 h4;obtain⟨a,b,c⟩:=h3 x List.mem_cons_self;simp only[List.length_cons]at h4;have e:D.write x.1 x.2=(D.put x.1 x.2,0):=by
   unfold write;rw[if_neg (by rw[h1];simp),if_neg (by rw[a];simp),if_neg (by omega),if_neg (by omega),if_neg b,if_neg (by omega)];rfl
  rw[layIn,e,if_neg (by simp)];exact ih h1 (Np h2 _ _) (fun y hy=>h3 y (List.mem_cons_of_mem _ hy)) (by rw[Dy,List.length_append,List.length_singleton];omega)
theorem flush_do {D:Dk}(h1:D.off=false)(h2:D.fuse<0):D.flush=(({D with data:=D.last fun _=>true,cache:=[]}:Dk).burnt,0):=by
 unfold flush;rw[if_neg (by rw[h1];simp),if_neg (by omega)]
theorem Pu (l m:List (Int×List UInt8))(k:Int):seesIn (l++m) k=match seesIn m k with
 |some s=>some s
 | .none=>seesIn l k:=by
 induction l with
 |nil=>simp only[List.nil_append];cases seesIn m k<;>rfl
 |cons x l ih=>
  have e:seesIn (x::l++m) k=match seesIn (l++m) k with
   |some s=>some s
   | .none=>if x.1=k then some x.2 else .none:=rfl
  rw[e,ih];cases seesIn m k with
  |some s=>rfl
  |none=>rfl
theorem Iz {D:Dk}(h:D.cache=[])(k:Nat):D.sees k=secOf D.data k:=by
 unfold sees;rw[h];rfl
end Dk
end
section
def Ca:List UInt8:=List.replicate 64 120
def BO:Pn:=⟨[5],[Ca]⟩
def Eh:Jr:=⟨1,0⟩
def AO:Tx:=⟨1,BO⟩
theorem K6:BO.Fit:=by
 have h:=Pn.set_fit Pn.none_fit 5 Ca;have e:(Pn.none.set 5 Ca).1=BO:=by kernel_rfl
 rwa [e]at h
theorem Ei:AO.Ok:=⟨K6,by intro h;cases h⟩
theorem ME {s:List UInt8}(h:s[0]?≠some 67):hcount s=0:=by
 unfold hcount;rw[if_neg];rintro⟨_,h2,_⟩;rw[List.isPrefixOf_iff_prefix]at h2;obtain⟨t,rfl⟩:=h2;exact h rfl
theorem ON {l:List (List UInt8)}(h:hcount (l.headD [])=0):(txRead l).2≠0:=fun h0=>(EU h0).2.1 h
namespace Dk
theorem next_mk (A:Dk)(f:Dk->Dk×Int):next (A,0) f=f A:=next_zero rfl
theorem Do (A:Dk)(f:Dk->Dk×Int):next (A,12) f=(A,12):=next_err (by simp)
end Dk
theorem Ly (n:Nat):(Dk.blank n).flush=(Dk.blank n,0):=by
 rw[Dk.flush_do rfl (by show(-1:Int)<0;omega)];rfl
theorem Il (l:List (List UInt8))(k:Int):∀x∈rowsFrom k l,∃i,∃h:i<l.length,x=(k+i,l[i]):=by
 intro x hx;obtain⟨i,hi,rfl⟩:=List.getElem_of_mem hx;have a0:i<l.length:=by rwa [Bf]at hi
 exact⟨i,a0,Cs l k i a0⟩
theorem Iw (l:List (List UInt8))(k:Int)(i:Nat)(h:i<l.length):Dk.seesIn (rowsFrom k l) (k+i)=some l[i]:=by
 have hi:i<(rowsFrom k l).length:=by rw[Bf];exact h
 have e:=Cs l k i h;rw[Dk.seesIn_some hi (by rw[e]) (fun j hj hij=>?_),e];have a0:j<l.length:=by rwa [Bf]at hj
 rw[Cs l k j a0];show k+(j:Int)≠k+(i:Int);omega
theorem Iy (l:List (List UInt8))(k o:Int)(h:o<k\/k+l.length<=o):Dk.seesIn (rowsFrom k l) o=.none:=by
 refine Dk.seesIn_none fun j hj=>?_
 have a0:j<l.length:=by rwa [Bf]at hj
 rw[Cs l k j a0];show k+(j:Int)≠o;omega
theorem Ln {β:Type}{f:Nat->Option β}{n:Nat}{b:β}(h0:f 0=some b)(h:∀i,1<=i->i<n+1->f i=.none):(List.range (n+1)).filterMap f=[b]:=by
 rw[List.range_succ_eq_map,List.filterMap_cons,h0];simp only[List.cons.injEq,true_and];rw[List.filterMap_eq_nil_iff];intro a ha;obtain⟨i,hi,rfl⟩:=List.mem_map.1 ha;exact h _ (by omega) (by have:=List.mem_range.1 hi;omega)
theorem Ej:AO.rows=[AO.top,At (nums [5]),Ca]:=rfl
theorem Gk:jrRows Eh BO=AO.rows:=by
 unfold jrRows;show(Tx.write AO).1=_;unfold Tx.write;rw[if_pos Ei]
theorem K5:jrAt Eh BO=0:=by
 unfold jrAt;rw[Gk,Ej];show jrPlace 0 (3:Int)=0
 decide
theorem D9 {D:Dk}(h:D.fuse<0):D.burnt.fuse<0:=by
 show(if 0<D.fuse then D.fuse-1 else D.fuse)<0;rw[if_neg (by omega)];exact h
theorem JC {n k:Nat}(h1:k<n):(Dk.blank n).sector k=List.replicate 64 0:=by
 unfold Dk.sector Dk.blank;simp only[List.take_replicate,List.drop_replicate]
 congr 1
 omega
theorem e7:∃G:Dk,jrCommit (Dk.blank 112) Eh BO=(G,⟨2,3⟩,0)/\G.fit=true/\jrScan G=([(0,AO)],0):=by
 have ae:∀k:Int,0<=k->k<112->(Dk.blank 112).there k=true:=fun k h0 h1=>by
  unfold Dk.there;rw[Dk.blank_sz];simp[h0];omega
 have hrl:AO.rows.length=3:=rfl;obtain⟨E,hE,hEf⟩:=Dk.layIn_do (rowsFrom 6 AO.rows) (D:=Dk.blank 112) rfl (by show(-1:Int)<0;omega) (fun x hx=>by
  obtain⟨i,hi,rfl⟩:=Il _ _ x hx;rw[hrl]at hi;exact⟨ae _ (by show(0:Int)<=6+i;omega) (by show(6:Int)+i<112;omega),(fun h=>by cases h),Tx.rows_64 Ei _ (List.getElem_mem _)⟩) (by rw[Bf,hrl];decide)
 obtain⟨e1,e2,e3,e4,_⟩:=Dk.layIn_spec _ hE;have a0:E.fit=true:=by have:=Dk.layIn_fit (l:=rowsFrom 6 AO.rows) (Dk.blank_fit (n:=112) (by omega) (by omega));rw[hE]at this;exact this
 have a3:E.sz=112:=by unfold Dk.sz;rw[e1];exact Dk.blank_sz 112
 have ac:=Dk.flush_do (D:=E) (e3.trans rfl) hEf;obtain⟨F,hF⟩:∃F,({E with data:=E.last fun _=>true,cache:=[]}:Dk).burnt=F:=⟨_,rfl⟩;have f1:F.data=E.last fun _=>true:=by rw[<-hF];rfl
 have f2:F.bad=[]:=by rw[<-hF];exact e2
 have f3:F.off=false:=by rw[<-hF];exact e3
 have f4:F.cache=[]:=by rw[<-hF];rfl
 have f5:F.fuse<0:=by rw[<-hF];exact D9 hEf
 have a5:F.sz=112:=by
  unfold Dk.sz;rw[f1,show(E.last fun _=>true).length=E.sz*64 from Dk.lastN_length a0 _ _,a3]
 have a4:F.fit=true:=by rw[<-hF];exact Dk.flushed_fit a0 _
 obtain⟨G,hG,_⟩:=Dk.layIn_do [((5:Int),Ca)] (D:=F) f3 f5 (fun x hx=>by
  obtain rfl:=List.mem_singleton.1 hx;refine⟨?_,by rw[f2];exact(fun h=>nomatch h),rfl⟩;unfold Dk.there;rw[a5];decide) (by rw[f4];decide)
 obtain⟨g1,g2,g3,g4,_⟩:=Dk.layIn_spec _ hG;have a6:G.fit=true:=by have:=Dk.layIn_fit (l:=[((5:Int),Ca)]) a4;rw[hG]at this;exact this
 have a7:G.sz=112:=by unfold Dk.sz;rw[g1];exact a5
 have hc:comSteps (Dk.blank 112) 6 AO.rows BO=(G,0):=by
  unfold comSteps;rw[Ly,Dk.next_mk,hE,Dk.next_mk,ac,hF,Dk.next_mk];exact hG
 refine⟨G,?_,a6,?_⟩
 · unfold jrCommit;rw[if_neg (by intro h;cases h),if_neg (by decide),K5,Gk,Int.add_zero,hc,if_neg (by simp)];rfl
 have a1:∀i:Nat,i<81->G.read (6+(i:Int))=(AO.rows.getD i (List.replicate 64 0),0):=fun i hi=>by
  have ht:G.there (6+(i:Int))=true:=by unfold Dk.there;rw[a7];simp;omega
  have hs:G.sees (6+(i:Int))=AO.rows.getD i (List.replicate 64 0):=by
   have h1:Dk.seesIn G.cache (6+(i:Int))=.none:=by
    rw[g4,f4];refine Dk.seesIn_none fun j hj=>?_
    have:j=0:=by simp at hj;exact hj
    subst this;show(5:Int)≠6+(i:Int);omega
   have h2:=Dk.last_sees a0 (k:=6+i) (by rw[a3];omega);unfold Dk.sees;rw[h1,Option.getD_none,Dk.sector_eq,g1,f1,show(6+(i:Int)).toNat=6+i by omega,h2];unfold Dk.sees;rw[e4];show(Dk.seesIn (rowsFrom 6 AO.rows) ((6+i:Nat):Int)).getD _=_;rw[show((6+i:Nat):Int)=6+(i:Int) by omega]
   rcases Nat.lt_or_ge i 3 with h3|h3
   · rw[Iw _ _ i (by rw[hrl];exact h3),Option.getD_some,List.getD_eq_getElem?_getD,List.getElem?_eq_getElem (by rw[hrl];exact h3),Option.getD_some]
   · rw[Iy _ _ _ (by rw[hrl];omega),Option.getD_none,Dk.sector_eq,e1,<-Dk.sector_eq,JC (by omega),List.getD_eq_getElem?_getD,List.getElem?_eq_none (by rw[hrl];exact h3),Option.getD_none]
  unfold Dk.read;rw[if_neg (by rw[g3,f3];simp),if_neg (by rw[ht];simp),if_neg (by rw[g2,f2];simp),hs]
 have a8:(jrAll G).2=0:=Cw fun i hi=>by rw[a1 i hi]
 obtain⟨hlen,hget⟩:=Cx a8;have a9:jrScan G=(jrFound (jrAll G).1 G.sz,0):=by unfold jrScan;rw[if_neg (by rw[a8];simp)]
 change (jrAll G).1.length=81 at hlen
 have hget:∀i:Nat,i<81->(jrAll G).1[i]? =some (AO.rows.getD i (List.replicate 64 0)):=fun i hi=>by
  have h:=(hget i hi).2;rw[a1 i hi]at h;exact h
 rw[a9];generalize (jrAll G).1=R at*;have aa:R=AO.rows++R.drop 3:=by
  have h3:R.take 3=AO.rows:=?_
  · conv=>lhs;rw[<-List.take_append_drop 3 R,h3]
  apply List.ext_getElem?
  intro i
  rcases Nat.lt_or_ge i 3 with h3|h3
  · rw[List.getElem?_take,if_pos h3,hget i (by omega),List.getD_eq_getElem?_getD,List.getElem?_eq_getElem (by rw[hrl];exact h3),Option.getD_some]
  · rw[List.getElem?_eq_none (by rw[List.length_take];omega),List.getElem?_eq_none (by rw[hrl];exact h3)]
 have a2:txRead R=(AO,0):=by rw[aa];exact Tx.read_rows Ei (by decide) _
 have ad:∀i,1<=i->i<80+1->hcount ((R.drop i).headD [])=0:=fun i h1 h2=>by
  have hi:i<R.length:=by rw[hlen];exact h2
  have e:=hget i h2;rw[List.getElem?_eq_getElem hi]at e;have e:=Option.some.inj e;rw[List.drop_eq_getElem_cons hi,List.headD_cons,e];apply ME
  rcases Nat.lt_or_ge i 3 with h3|h3
  · have:i=1\/i=2:=by omega
    rcases this with rfl|rfl
    · rw[Ej];decide
    · rw[Ej];decide
  · have h5:AO.rows[i]? =.none:=List.getElem?_eq_none (by rw[hrl];exact h3);rw[List.getD_eq_getElem?_getD,h5,Option.getD_none];decide
 have ab:jrFound R G.sz=[(0,AO)]:=by
  unfold jrFound;refine Ln (n:=80) (f:=jrIn R G.sz) (b:=(0,AO)) ?_ fun i h1 h2=>?_
  · unfold jrIn;rw[List.drop_zero,a2];refine if_pos ⟨rfl,fun k hk=>?_⟩;obtain rfl:k=5:=List.mem_singleton.1 hk;rw[a7];decide
  · unfold jrIn;rw[if_neg];rintro⟨h,_⟩;exact ON (ad i h1 h2) h
 rw[ab]
end
section
namespace Dk
def Can (D:Dk)(P:List (Int×List UInt8)):Prop:=∀x∈P,D.there x.1=true/\x.1∉D.bad/\x.2.length=64
theorem Can.of {D E:Dk}{P:List (Int×List UInt8)}(h:D.Can P)(h1:E.data.length=D.data.length)(h2:E.bad=D.bad):E.Can P:=fun x hx=>by
 obtain⟨a,b,c⟩:=h x hx;have e:E.sz=D.sz:=by unfold sz;rw[h1]
 exact⟨by unfold there at a ⊢;rw[e];exact a,by rw[h2];exact b,c⟩
theorem GG:∀(P:List (Int×List UInt8)){D:Dk},D.off=false->D.Can P->D.cache.length+P.length<=4096->
 ∃E e m,layIn P D=(E,e)/\m<=P.length/\E.data=D.data/\E.bad=D.bad/\E.cache=D.cache++P.take m/\(e=0\/e=12)/\(e=0->m=P.length/\E.off=false):=by
 intro P
 induction P with
 |nil=>intro D h1 _ _;exact⟨D,0,0,rfl,Nat.le_refl _,rfl,rfl,(List.append_nil _).symm,.inl rfl,fun _=>⟨rfl,h1⟩⟩
 |cons x P ih=>
  intro D h1 h3 h4;obtain⟨a,b,c⟩:=h3 x List.mem_cons_self;simp only[List.length_cons]at h4;by_cases hfu:D.fuse=0
  · have e:D.write x.1 x.2=({D with off:=true},12):=by
     unfold write;rw[if_neg (by rw[h1];simp),if_neg (by rw[a];simp),if_neg (by omega),if_pos hfu]
    refine⟨{D with off:=true},12,0,?_,Nat.zero_le _,rfl,rfl,(List.append_nil _).symm,.inr rfl,(fun h=>absurd h (by decide))⟩;rw[layIn,e,if_pos (by simp)]
  · have e:D.write x.1 x.2=(D.put x.1 x.2,0):=by
     unfold write;rw[if_neg (by rw[h1];simp),if_neg (by rw[a];simp),if_neg (by omega),if_neg hfu,if_neg b,if_neg (by omega)];rfl
    obtain⟨E,e',m,i1,i2,i3,i4,i5,i6,i7⟩:=ih (D:=D.put x.1 x.2) h1 (fun y hy=>h3 y (List.mem_cons_of_mem _ hy)) (by rw[Dy,List.length_append,List.length_singleton];omega);refine⟨E,e',m+1,?_,by rw[List.length_cons];omega,i3,i4,?_,i6,fun h=>⟨by rw[(i7 h).1];rfl,(i7 h).2⟩⟩
    · rw[layIn,e,if_neg (by simp)];exact i1
    · rw[i5,Dy,List.append_assoc];rfl
theorem Gq {D:Dk}(h:D.off=false):(D.flush=({D with off:=true},12))\/∃E,D.flush=(E,0)/\E.data=(D.last fun _=>true)/\E.cache=[]/\E.bad=D.bad/\E.off=false:=by
 rcases Lz D h with e|e
 · exact .inl e
 · exact .inr ⟨_,e,rfl,rfl,rfl,h⟩
theorem Pw (D:Dk)(P:List (Int×List UInt8)){E:Dk}(h1:E.data=D.data)(h2:E.cache=D.cache++P)(k:Int):E.sees k=(seesIn P k).getD (D.sees k):=by
 unfold sees;rw[h2,Pu];cases seesIn P k with
 |some s=>rfl
 |none=>unfold sector;rw[h1];rfl
theorem Gr {D E:Dk}(hf:D.fit=true)(h1:E.data=(D.last fun _=>true))(h2:E.cache=[]){k:Nat}(hk:k<D.sz):E.sees k=D.sees k:=by
 rw[Iz h2,h1,last_sees hf hk]
theorem DK {E:Dk}(h2:E.cache=[])(k:Nat):E.sees k=E.sector k:=by rw[Iz h2,sector_eq]
end Dk
open Dk
theorem JW {D:Dk}(hf:D.fit=true)(ho:D.off=false)(k:Int)(R:List (List UInt8))(M:Pn)(hR:D.Can (rowsFrom k R))(hM:D.Can (M.targets.zip M.data))(hl:R.length<=27)(hm:M.targets.length<=24):
 ∃E e,comSteps D k R M=(E,e)/\(e=0\/e=12)/\E.bad=D.bad/\E.data.length=D.data.length/\(e=0->E.off=false)/\
  ((e≠0/\E.data=D.data/\E.cache=D.cache)\/
   (e≠0/\(∀i:Nat,i<D.sz->E.sector i=D.sees i)/\∀x∈E.cache,x∈rowsFrom k R)\/
   ((∀i:Nat,i<D.sz->E.sector i=(seesIn (rowsFrom k R) i).getD (D.sees i))/\∃n,E.cache=(M.targets.zip M.data).take n/\(e=0->n=(M.targets.zip M.data).length))):=by
 unfold comSteps
 rcases Gq ho with e|⟨A,e,a1,a2,a3,a4⟩
 · rw[e,Do,Do,Do];exact⟨_,_,rfl,.inr rfl,rfl,rfl,(fun h=>absurd h (by decide)),.inl ⟨by decide,rfl,rfl⟩⟩
 rw[e,next_mk];have aa:A.fit=true:=by have:=flush_fit hf;rw[e]at this;exact this
 have a0:A.data.length=D.data.length:=by
  obtain⟨_,_,hl,_⟩:=fit_parts hf;rw[a1,hl];exact lastN_length hf _ _
 have ab:A.sz=D.sz:=by unfold sz;rw[a0]
 have a5:∀i:Nat,i<D.sz->A.sees i=D.sees i:=fun i hi=>Gr hf a1 a2 hi
 obtain⟨B,eb,m,b1,b2,b3,b4,b5,b6,b7⟩:=GG (rowsFrom k R) (D:=A) a4 (hR.of a0 a3) (by rw[a2,Bf];simp only[List.length_nil];omega);rw[a2,List.nil_append]at b5;show∃E e,next (next (layIn (rowsFrom k R) A) flush) _=(E,e)/\_;rw[b1];by_cases hb0:eb=0
 · obtain⟨b8,b9⟩:=b7 hb0;rw[next_zero (X:=(B,eb)) hb0];have a6:B.fit=true:=by have:=layIn_fit (l:=rowsFrom k R) aa;rw[b1]at this;exact this
   have a7:B.data.length=D.data.length:=by rw[b3,a0]
   have a8:B.sz=D.sz:=by unfold sz;rw[a7]
   have b5:B.cache=rowsFrom k R:=by rw[b5,b8,List.take_length]
   rcases Gq b9 with e2|⟨G,e2,g1,g2,g3,g4⟩
   · show∃E e,next (flush B) _=(E,e)/\_;rw[e2,Do];refine⟨_,_,rfl,.inr rfl,b4.trans a3,a7,(fun h=>absurd h (by decide)),.inr (.inl ⟨by decide,fun i hi=>?_,fun x hx=>?_⟩)⟩
     · rw[<-a5 i hi,DK a2];show B.sector i=_;rw[sector_eq,sector_eq,b3]
     · have:x∈B.cache:=hx
       rwa [b5]at this
   · show∃E e,next (flush B) _=(E,e)/\_;rw[e2,next_mk];have ac:∀i:Nat,i<D.sz->G.sector i=(seesIn (rowsFrom k R) i).getD (D.sees i):=fun i hi=>by
      rw[<-DK g2,Gr a6 g1 g2 (by rw[a8];exact hi),Pw A (rowsFrom k R) b3 (by rw[a2];exact b5),a5 i hi]
     have a9:G.data.length=D.data.length:=by
      obtain⟨_,_,hl,_⟩:=fit_parts a6;rw[g1,<-a7,hl];exact lastN_length a6 _ _
     obtain⟨E,ee,n,i1,i2,i3,i4,i5,i6,i7⟩:=GG (M.targets.zip M.data) (D:=G) g4 (hM.of a9 (g3.trans (b4.trans a3))) (by rw[g2,List.length_zip];simp only[List.length_nil];omega);refine⟨E,ee,i1,i6,i4.trans (g3.trans (b4.trans a3)),by rw[i3,a9],fun h=>(i7 h).2,.inr (.inr ⟨fun i hi=>?_,n,by rw[i5,g2];rfl,fun h=>(i7 h).1⟩)⟩;rw[<-ac i hi,sector_eq,sector_eq,i3]
 · rw[next_err (X:=(B,eb)) hb0,next_err (X:=(B,eb)) hb0];refine⟨_,_,rfl,b6,b4.trans a3,by rw[b3,a0],fun h=>absurd h hb0,.inr (.inl ⟨hb0,fun i hi=>?_,fun x hx=>?_⟩)⟩
   · rw[<-a5 i hi,DK a2,sector_eq,sector_eq,b3]
   · rw[b5]at hx;exact List.mem_of_mem_take hx
theorem JX {D:Dk}(hf:D.fit=true)(ho:D.off=false)(hfu:D.fuse<0)(k:Int)(R:List (List UInt8))(M:Pn)(hR:D.Can (rowsFrom k R))(hM:D.Can (M.targets.zip M.data))(hl:R.length<=27)(hm:M.targets.length<=24):
 (comSteps D k R M).2=0/\(comSteps D k R M).1.fuse<0:=by
 unfold comSteps;have e:=flush_do ho hfu;obtain⟨A,hA⟩:∃A,({D with data:=D.last fun _=>true,cache:=[]}:Dk).burnt=A:=⟨_,rfl⟩;rw[hA]at e;have a1:A.data=D.last fun _=>true:=by rw[<-hA];rfl
 have a2:A.cache=[]:=by rw[<-hA];rfl
 have a3:A.bad=D.bad:=by rw[<-hA];rfl
 have a4:A.off=false:=by rw[<-hA];exact ho
 have a5:A.fuse<0:=by rw[<-hA];exact D9 hfu
 have a7:A.fit=true:=by have:=flush_fit hf;rw[e]at this;exact this
 have a0:A.data.length=D.data.length:=by
  obtain⟨_,_,hl,_⟩:=fit_parts hf;rw[a1,hl];exact lastN_length hf _ _
 rw[e,next_mk];obtain⟨B,b1,b2⟩:=layIn_do (rowsFrom k R) a4 a5 (hR.of a0 a3) (by rw[a2,Bf];simp only[List.length_nil];omega);obtain⟨b3,b4,b5,b6,_⟩:=layIn_spec _ b1;have a6:B.fit=true:=by have:=layIn_fit (l:=rowsFrom k R) a7;rw[b1]at this;exact this
 show(next (next (layIn (rowsFrom k R) A) flush) _).2=0/\(next (next (layIn (rowsFrom k R) A) flush) _).1.fuse<0;rw[b1,next_mk];have e2:=flush_do (b5.trans a4) b2;obtain⟨G,hG⟩:∃G,({B with data:=B.last fun _=>true,cache:=[]}:Dk).burnt=G:=⟨_,rfl⟩;rw[hG]at e2;show(next (flush B) _).2=0/\(next (flush B) _).1.fuse<0;rw[e2,next_mk];have g1:G.data=B.last fun _=>true:=by rw[<-hG];rfl
 have a8:G.data.length=D.data.length:=by
  obtain⟨_,_,hl,_⟩:=fit_parts a6;rw[g1,<-a0,<-b3,hl];exact lastN_length a6 _ _
 obtain⟨E,i1,i2⟩:=layIn_do (M.targets.zip M.data) (D:=G) (by rw[<-hG];exact b5.trans a4) (by rw[<-hG];exact D9 b2) (hM.of a8 (by rw[<-hG];exact b4.trans a3)) (by rw[<-hG,List.length_zip];simp only[D8,List.length_nil];omega);have a9:Pn.lay G M=(E,0):=i1;show(Pn.lay G M).2=0/\(Pn.lay G M).1.fuse<0;rw[a9];exact⟨rfl,i2⟩
structure Quiet (D:Dk):Prop where
 off:D.off=false
 bad:D.bad=[]
 fit:D.fit=true
 big:112<=D.sz
theorem Quiet.read {D:Dk}(h:Quiet D){k:Nat}(hk:k<D.sz):D.read (k:Int)=(D.sees k,0):=by
 have ht:D.there (k:Int)=true:=by unfold there;simp;omega
 unfold Dk.read;rw[if_neg (by rw[h.off];simp),if_neg (by rw[ht];simp),if_neg (by rw[h.bad];simp)]
theorem Quiet.all {D:Dk}(h:Quiet D):(jrAll D).2=0/\(jrAll D).1.length=81/\∀i:Nat,i<81->(jrAll D).1[i]? =some (D.sees ((6+i:Nat):Int)):=by
 have hb:=h.big;have hr:∀i:Nat,i<81->D.read (6+(i:Int))=(D.sees ((6+i:Nat):Int),0):=fun i hi=>by
  rw[show(6+(i:Int))=((6+i:Nat):Int) by omega];exact h.read (by omega)
 have h0:(jrAll D).2=0:=Cw fun i hi=>by rw[hr i hi]
 obtain⟨h1,h2⟩:=Cx h0;refine⟨h0,h1,fun i hi=>?_⟩;have:=(h2 i hi).2
 rwa [hr i hi]at this
end
section
open Dk
def Outside (n:Nat)(L:Pn):Prop:=∀k∈L.targets,¬(6<=k/\k<87)/\k<(n:Int)
theorem Pn.Fit.zip_can {L:Pn}(h:L.Fit){D:Dk}(ho:Outside D.sz L)(hb:D.bad=[]):D.Can (L.targets.zip L.data):=fun x hx=>by
 obtain⟨h1,h2⟩:=List.of_mem_zip (a:=x.1) (b:=x.2) hx;obtain⟨i,hi,e⟩:=List.getElem_of_mem h1;obtain⟨j,hj,e2⟩:=List.getElem_of_mem h2;have hs:=(h.2.2.1 i hi).1;rw[e]at hs;simp only[sectorOk,Bool.and_eq_true,decide_eq_true_eq]at hs;have hk:=ho x.1 h1;refine⟨?_,by rw[hb];exact(fun h=>nomatch h),by rw[<-e2];exact h.2.2.2 j hj⟩;unfold there;simp only[Bool.and_eq_true,decide_eq_true_eq];exact⟨hs.1,hk.2⟩
structure First (D D1:Dk) (L:Pn) (j1:Jr):Prop where
 quiet:Quiet D1
 sz:D1.sz=D.sz
 cache:D1.cache=L.targets.zip L.data
 out:∀k:Nat,k<D.sz->¬(6<=k/\k<87)->D1.sector k=D.sees k
 fit:jrFit j1=true
 pos:j1.pos<=27
 none:L.targets=[]->j1=⟨1,0⟩
 some:L.targets≠[]->j1.seq=2/\j1.pos=(jrRows ⟨1,0⟩ L).length/\∀i (h:i<(jrRows ⟨1,0⟩ L).length),D1.sector (6+i)=(jrRows ⟨1,0⟩ L)[i]
theorem OV {D:Dk}(h:Quiet D){j:Jr}{L:Pn}(hL:L.Fit)(h0:L.targets≠[]):D.Can (rowsFrom (6+jrAt j L) (jrRows j L)):=fun x hx=>by
 obtain⟨i,hi,rfl⟩:=Il _ _ x hx;have a0:(⟨j.seq,L⟩:Tx).Ok:=⟨hL,h0⟩;have e:jrRows j L=(⟨j.seq,L⟩:Tx).rows:=by unfold jrRows Tx.write;rw[if_pos a0]
 have hl:(jrRows j L).length<=27:=DT _;have a1:0<=jrAt j L/\jrAt j L+(jrRows j L).length<=81:=Di (by omega) (by omega);have hb:=h.big;refine⟨?_,by rw[h.bad];exact(fun h=>nomatch h),?_⟩
 · unfold there;simp only[Bool.and_eq_true,decide_eq_true_eq];omega
 · show(jrRows j L)[i].length=64;have:=Tx.rows_64 a0 (jrRows j L)[i] (by rw[<-e];exact List.getElem_mem hi);exact this
theorem first {D:Dk}(h:Quiet D)(hc:D.cache=[])(hfu:D.fuse<0){L:Pn}(hL:L.Fit)(ho:Outside D.sz L):∃D1 j1,jrCommit D ⟨1,0⟩ L=(D1,j1,0)/\First D D1 L j1:=by
 by_cases h0:L.targets=[]
 · refine⟨D,⟨1,0⟩,by unfold jrCommit;rw[if_pos h0],h,rfl,by rw[hc,h0];rfl,fun k _ _=>(DK hc k).symm,by decide,by decide,fun _=>rfl,fun hn=>absurd h0 hn⟩
 have hl:(jrRows ⟨1,0⟩ L).length<=27:=DT _;have a1:jrAt ⟨1,0⟩ L=0:=by
  unfold jrAt jrPlace
  split
  · rfl
  · rfl
 have a2:=OV h (j:=⟨1,0⟩) hL h0;have a3:=hL.zip_can ho h.bad;obtain⟨E,e,c1,c2,c3,c8,c4,c5⟩:=JW h.fit h.off (6+jrAt ⟨1,0⟩ L) (jrRows ⟨1,0⟩ L) L a2 a3 hl hL.2.1;obtain⟨d1,d2⟩:=JX h.fit h.off hfu (6+jrAt ⟨1,0⟩ L) (jrRows ⟨1,0⟩ L) L a2 a3 hl hL.2.1;have a0:(comSteps D (6+jrAt ⟨1,0⟩ L) (jrRows ⟨1,0⟩ L) L).1.fit=true:=FL h.fit _ _ _;rw[c1]at d1 a0;have he:e=0:=d1;have a0:E.fit=true:=a0;subst he
 rcases c5 with c5|c5|⟨c5,n,c6,c7⟩
 · exact absurd rfl c5.1
 · exact absurd rfl c5.1
 have c6:E.cache=L.targets.zip L.data:=by rw[c6,c7 rfl,List.take_length]
 have a4:E.sz=D.sz:=by
  unfold sz;rw[c8]
 have a5:∀k:Nat,(k:Int)<6\/6+((jrRows ⟨1,0⟩ L).length:Int)<=k->seesIn (rowsFrom (6+jrAt ⟨1,0⟩ L) (jrRows ⟨1,0⟩ L)) k=.none:=fun k hk=>by
  rw[a1,Int.add_zero];exact Iy _ _ _ hk
 refine⟨E,⟨2,(jrRows ⟨1,0⟩ L).length⟩,?_,⟨c4 rfl,c3.trans h.bad,a0,by rw[a4];exact h.big⟩,a4,c6,fun k hk hj=>?_,?_,?_,fun hn=>absurd hn h0,fun _=>⟨rfl,rfl,fun i hi=>?_⟩⟩
 · unfold jrCommit;rw[if_neg h0,if_neg (by decide),c1,if_neg (by simp),a1,Int.zero_add]
 · rw[c5 k hk,a5 k (by omega)];rfl
 · rw[Ev];show 1<=2/\2<=4611686018427387904/\(0:Int)<=(jrRows ⟨1,0⟩ L).length/\((jrRows ⟨1,0⟩ L).length:Int)<=81;omega
 · show((jrRows ⟨1,0⟩ L).length:Int)<=27;omega
 · have hb:=h.big;rw[c5 _ (by omega),a1,Int.add_zero,show((6+i:Nat):Int)=6+(i:Int) by omega,Iw _ _ i hi];rfl
end
section
open Go.RowKit Go.Shelf
attribute [local go_sem] Oper.semAt_some
def BytesIn (g off len:Nat)(W:World):Prop:=∀j,j<len->∃v:UInt8,W.cell? ⟨g,off+j,none⟩=some (.int .u8 v.toNat)
def BackK (Bs:Nat)(sv:Value)(g off len:Nat)(W W':World):Prop:=
 (W.cell? ⟨Bs,0,none⟩=some sv->W'.cell? ⟨Bs,0,none⟩=some sv)/\(BytesIn g off len W->BytesIn g off len W')
theorem BackK.t {Bs:Nat}{sv:Value}{g off len:Nat}{A B C:World}(h:BackK Bs sv g off len A B)(k:BackK Bs sv g off len B C):BackK Bs sv g off len A C:=
 ⟨fun x=>k.1 (h.1 x),fun x=>k.2 (h.2 x)⟩
theorem BackK.b {Bs:Nat}{sv:Value}{g off len:Nat}{w:World}(W:World)(l:Nat)(o o':Obj)(_:w.heap.size<=l)(h:W.heap[l]? =some o)(hc:o.isCells=false)(_:o.isWalk=false):BackK Bs sv g off len W (W.putObj l o'):=
 ⟨fun x=>cell_kept x (grownBy_putObj' W l o') (fun r e=>by cases e;exact⟨_,h,hc⟩),
  fun x j hj=>by obtain⟨v,hv⟩:=x j hj;exact⟨v,cell_kept hv (grownBy_putObj' W l o') (fun r e=>by cases e;exact⟨_,h,hc⟩)⟩⟩
def backEnc (len:Nat)(x:Fin len×UInt8):Array Value:=#[.int .i64 (x.1.val:Int),.int .u8 x.2.toNat]
theorem Jp (F:Fence)(n:Nat)(h7:F.fn 200)(hro:F.round=none)(hn:1<=n)(l Bs g off len cap:Nat)(hreach:len<=140737488351232)
 (J Jx:List (Fin len×UInt8)->World->Prop)
 (hY:∀pre x W,J pre W->pre.length<len->YieldAt F (n-1) Tryz.prog l (backEnc len x) W fun e W'=>
  (e=.returned (.bool true)/\J (pre++[x]) W'/\BackK Bs (.slice (some ⟨g,off,none⟩) len cap) g off len W W')\/(e=.returned (.bool false)/\Jx (pre++[x]) W'))
 (W:World) (hBs:W.cell? ⟨Bs,0,none⟩=some (.slice (some ⟨g,off,none⟩) len cap)) (hc:BytesIn g off len W) (h0:J [] W):
 CallsIn F n Tryz.prog 200 #[.func (.yield l) #[] #[],.pointer (some ⟨Bs,0,none⟩)] W fun e W'=>(∃v,e=.returned v)/\
  ((∃ys,ys.map (fun y=>y.1.val)=(List.range len).reverse/\J ys W')\/(∃pre,True/\Jx pre W')):=by
 refine callsIn_of_wp Tryz.func200 rfl h7 ?_ hro;simp only[Tryz.ntmps200,Nat.reduceAdd,Nat.reduceSub,Yn]
 gi_wp2
 gi_loopw [3] (fun i wr=>∃(pre:List (Fin len×UInt8)),pre.length<=len/\i=.int .i64 ((len:Int)-1-pre.length)/\Hid (pre.map (fun y=>y.1.val)=((List.range len).reverse).take pre.length)/\J pre wr/\BytesIn g off len wr/\wr.cell? ⟨Bs,0,none⟩=some (.slice (some ⟨g,off,none⟩) len cap))
  (fun i _=>(intOf i+1).toNat)
 case atStart=>exact⟨[],Nat.zero_le _,by simp,Lib.hid rfl,h0,hc,hBs⟩
 case round=>
  obtain⟨pre,hk,rfl,hpm,hJs,hby,hbx⟩:=hrel;by_cases hlt:pre.length<len
  · obtain⟨v,hv⟩:=hby (len-1-pre.length) (by omega);have a3:wr.cell? ⟨g,off+((len:Int)-1-pre.length).toNat,none⟩=some (.int .u8 v.toNat):=by rw[<-hv];congr 2;omega
    obtain⟨fn,tmps,assign,body,hy,hR⟩:=hY pre (⟨len-1-pre.length,by omega⟩,v) wr hJs (by omega);simp only[backEnc]at hy;rw[show((len-1-pre.length:Nat):Int)=(len:Int)-1-pre.length by omega]at hy
    gi_wp2
    refine hR.mono ?_;rintro e W3 (⟨rfl,hJ3,hk3⟩|⟨rfl,hJx3⟩)
    · have a0:=hk3.1 hbx;have a2:=hk3.2 hby
      gi_wp2
      go_roundw
      case rel=>exact⟨pre++[(⟨len-1-pre.length,by omega⟩,v)],by simp;omega,by simp;omega,Lib.hid (by
       rw[List.map_append,hpm.out];simp only[List.length_append,List.map_cons,List.map_nil,List.length_singleton]
       rw[List.take_succ_eq_append_getElem (by simpa using hlt)];simp),hJ3,a2,a0⟩
      case measure=>simp[intOf];omega
    · gi_wp2
      refine bodyPost_ret (results_none rfl _ _ _) rfl ?_;exact⟨⟨_,rfl⟩,.inr ⟨_,trivial,hJx3⟩⟩
  · have a1:len<=pre.length:=by omega
    gi_wp2
    go_end0
    exact⟨⟨_,rfl⟩,.inl ⟨pre,by rw[hpm.out,List.take_of_length_le (by simpa using a1)],hJs⟩⟩
theorem Tryz.infoByte:(Tryz.prog.info? 5).map (fun i=>(i.zero,i.size,i.bytes))=some (some (.int .u8 0),1,1):=by kernel_rfl
theorem Jq (F:Fence)(n:Nat)(h5:F.fn 190)(hro:F.round=none)(a:Option Addr)(len cap:Nat)(w:World):
 CallsIn F n Tryz.prog 190 #[.slice a len cap] w fun e w'=>e=.returned (.func (.func 200) #[] #[.pointer (some ⟨w.heap.size,0,none⟩)])/\w'=w.alloc (.cells #[.slice a len cap] 139):=by
 refine callsIn_of_wp Tryz.func190 rfl h5 ?_ hro;simp only[Tryz.ntmps190,Nat.reduceAdd,Nat.reduceSub,Yn]
 gi_wp2
 go_ret
 exact⟨rfl,rfl⟩
theorem Js (F:Fence)(n:Nat)(h7:F.fn 200)(hro:F.round=none)(hn:1<=n)(Bs g off len cap:Nat)(hreach:len<=140737488351232)(w:World)(hB:Bs<w.heap.size)(hg:g<w.heap.size)
 (hBs:w.cell? ⟨Bs,0,none⟩=some (.slice (some ⟨g,off,none⟩) len cap)) (hc:BytesIn g off len w):
 SeqStopsK F n Tryz.prog 200 #[.pointer (some ⟨Bs,0,none⟩)] (backEnc len) (BackK Bs (.slice (some ⟨g,off,none⟩) len cap) g off len) (fun ys=>ys.map (fun y=>y.1.val)=(List.range len).reverse) (fun _=>True) len w:=fun l J Jx W hW _ _ hY h0=>
 Jp F n h7 hro hn l Bs g off len cap hreach J Jx hY W ((hW.cell (p:=⟨Bs,0,none⟩) hB).trans hBs)
  (fun j hj=>by obtain⟨v,hv⟩:=hc j hj;exact⟨v,(hW.cell (p:=⟨g,off+j,none⟩) hg).trans hv⟩) h0
theorem Nq (F:Fence)(n:Nat)(h6:F.fn 175)(h14:F.fn 190)(h17:F.fn 200)(hro:F.round=none)(hn:3<=n)(x size:Nat)(hx:x<18446744073709551616)(hs:1<=size)(hs8:size<=8)(w:World):
 CallsIn F n Tryz.prog 175 #[.int .u64 x,.int .i64 size] w fun e w'=>(∃ys:List (Fin size×UInt8),ys.map (fun y=>y.1.val)=(List.range size).reverse/\e=.returned (.string ⟨(putSt size x ys).1.toArray⟩))/\Below w.heap.size w w':=by
 have h1:1<=n:=by omega
 refine callsIn_of_wp_marks Tryz.func175 rfl h6 ?_ hro;simp only[Tryz.ntmps175,Nat.reduceAdd,Nat.reduceSub,Yn];obtain⟨i0,hi,hz0,hz1,hz2⟩:=info_parts Tryz.infoByte;have a7:=fun W=>BK (P:=Tryz.prog) 139 5 i0 (.int .u8 0) Tryz.underlying139 hi hz0 .i64 .i64 size size (Nat.le_refl _) (by rw[hz2];omega) (by omega) W
 rw[hz1,Nat.mul_one]at a7
 gi_wp2_with (gi_at_call 190;refine(Jq F (n-1) h14 hro _ _ _ _).mono ?_;rintro e w' ⟨rfl,rfl⟩)
 have b0:=Blk.new w 28 #[Value.int .u64 (x:Int)];have b1:=Blk.new (w.alloc (.cells #[.int .u64 x] 28)) 5 (madeCells #[.int .u8 0] size);have b2:=Blk.new ((w.alloc (.cells #[.int .u64 x] 28)).alloc (.cells (madeCells #[.int .u8 0] size) 5)) 139 #[.slice (some ⟨w.heap.size+1,0,none⟩) size size];have b3:=Blk.new (((w.alloc (.cells #[.int .u64 x] 28)).alloc (.cells (madeCells #[.int .u8 0] size) 5)).alloc (.cells #[.slice (some ⟨w.heap.size+1,0,none⟩) size size] 139)) 139 #[.slice (some ⟨w.heap.size+1,0,none⟩) size size];simp only[Ys]at b1 b2 b3;have a0:madeCells #[.int .u8 0] size=byteCells (List.replicate size 0):=by
  apply Array.toList_inj.1
  rw[toList_madeCells_one];simp[byteCells]
 rw[a0]at b1 b2 b3 ⊢;have hB0:=(((Yz (W:=w) (.cells #[.int .u64 x] 28)).alloc (by simp) (.cells (byteCells (List.replicate size 0)) 5)).alloc (by simp;omega) (.cells #[.slice (some ⟨w.heap.size+1,0,none⟩) size size] 139)).alloc (by simp;omega) (.cells #[.slice (some ⟨w.heap.size+1,0,none⟩) size size] 139);refine wpIn_rangeFunc_ownG hro h1 (gf:=200) (lb:=#[.pointer (some ⟨w.heap.size+1+1+1,0,none⟩)]) rfl h17 (enters_of Tryz.func200 (by kernel_rfl) rfl)
  (Js F (n-1) h17 hro (by omega) (w.heap.size+1+1+1) (w.heap.size+1) 0 size size (by omega) _ (by simp) (by simp) (by rw[b3.cell];rfl) ?hby) BackK.t (fun W l o o' q1 q2 q3 q4=>BackK.b (w:=w) W l o o' (by simp at q1;omega) q2 q3 q4) (Below.refl _ _) (fun _=>rfl)
  (fun pre W=>(Blk W w.heap.size 28 #[.int .u64 (putSt size x pre).2]/\Blk W (w.heap.size+1) 5 (byteCells (putSt size x pre).1)/\Blk W (w.heap.size+1+1) 139 #[.slice (some ⟨w.heap.size+1,0,none⟩) size size]/\Blk W (w.heap.size+1+1+1) 139 #[.slice (some ⟨w.heap.size+1,0,none⟩) size size])/\Below w.heap.size w W)
  (fun _ _ _=>False)
  (OwnFrom.and (Own.from (Own.and (AE _ _ _) (Own.and (AE _ _ _) (Own.and (AE _ _ _) (AE _ _ _)))) _) (ownFrom_below (Nat.le_refl _) (by simp;omega)))
  (fun _ _ _ _ _ hs _ _=>hs)
  ?h0
  (fun y=>{tmps:=#[.int .u64 x,.int .i64 size,.pointer (some ⟨w.heap.size,0,none⟩),undef,.string ⟨#[]⟩,.pointer (some ⟨w.heap.size+1+1,0,none⟩),.int .i64 (y.1.val:Int),.int .i64 size,.bool (decide ((size:Int)<1)),.bool (decide ((size:Int)<1)),.int .i64 size,.bool (decide ((8:Int)<size)),.bool (decide ((size:Int)<1)||decide ((8:Int)<size)),.int .i64 size,.slice (some ⟨w.heap.size+1,0,none⟩) size size,.slice (some ⟨w.heap.size+1,0,none⟩) size size,.func (.func 200) #[] #[.pointer (some ⟨w.heap.size+1+1+1,0,none⟩)],.int .i64 (y.1.val:Int),.int .u8 y.2.toNat,undef,undef,undef,undef,undef,undef,undef,undef,undef],defers:=[]}) ?assign ?body ?done ?stop
 case hby=>exact fun j hj=>⟨0,by rw[((b1.alloc _).alloc _).cell];simp[byteCells,hj]⟩
 case h0=>exact⟨⟨((b0.alloc _).alloc _).alloc _,(b1.alloc _).alloc _,b2.alloc _,b3⟩,hB0⟩
 case assign=>
  intro l y W K hK
  dsimp only[backEnc]
  gi_wp2
  exact hK
 case body=>
  rintro l pre ⟨i,v⟩ W ⟨⟨h1,h2,h3,h4⟩,hB⟩ hpl;have c1:=h1.cell 0;have c3:=h3.cell 0;simp at c1 c3;have f1:=h1.frozen 0;have f2:=h2.frozen i.val;have hi:=i.isLt;obtain⟨v2,c2⟩:∃v2,W.cell? ⟨w.heap.size+1,i.val,none⟩=some v2:=by
   rw[h2.cell];exact⟨_,Array.getElem?_eq_getElem (by simp[byteCells,Dx])⟩
  gi_wp2
  have hv:Value.int .u8 ((putSt size x pre).2%256:Int)=.int .u8 (UInt8.ofNat (putSt size x pre).2).toNat:=by simp
  have a5:=(hB.setCell (p:=⟨w.heap.size+1,i.val,none⟩) (by simp) (.int .u8 ((putSt size x pre).2%256:Int))).setCell (p:=⟨w.heap.size,0,none⟩) (Nat.le_refl _) (.int .u64 ((putSt size x pre).2/256:Int));have a3:=(h1.other (a:=⟨w.heap.size+1,i.val,none⟩) (by simp) (.int .u8 ((putSt size x pre).2%256:Int))).set 0 (.int .u64 ((putSt size x pre).2/256:Int));have a1:=(h2.set i.val (.int .u8 ((putSt size x pre).2%256:Int))).other (a:=⟨w.heap.size,0,none⟩) (by simp;try omega) (.int .u64 ((putSt size x pre).2/256:Int));have a4:=(h3.other (a:=⟨w.heap.size+1,i.val,none⟩) (by simp;try omega) (.int .u8 ((putSt size x pre).2%256:Int))).other (a:=⟨w.heap.size,0,none⟩) (by simp;try omega) (.int .u64 ((putSt size x pre).2/256:Int));have a2:=(h4.other (a:=⟨w.heap.size+1,i.val,none⟩) (by simp;try omega) (.int .u8 ((putSt size x pre).2%256:Int))).other (a:=⟨w.heap.size,0,none⟩) (by simp;try omega) (.int .u64 ((putSt size x pre).2/256:Int));refine⟨((KeepsOthers.setCell _ _ _).trans (KeepsOthers.setCell _ _ _)).from _,⟨fun _=>by rw[a2.cell];rfl,fun _ j hj=>?_⟩,⟨?_,?_,a4,a2⟩,a5⟩
  · refine⟨((putSt size x pre).1.set i.val (UInt8.ofNat (putSt size x pre).2))[j]'(by simpa[Dx]using hj),?_⟩;rw[a1.cell,hv];simp[byteCells,Dx,hj,List.getElem_set]
    split<;>simp_all
  · simpa[EL,putStep]using a3
  · have e:byteCells (putSt size x (pre++[(i,v)])).1=(byteCells (putSt size x pre).1).setIfInBounds i.val (.int .u8 ((putSt size x pre).2%256:Int)):=by
     rw[EL,hv];simp[putStep,byteCells,List.map_set]
    rw[e];exact a1
 case done=>
  rintro D ys W hD hys ⟨⟨h1,h2,h3,h4⟩,hB⟩ hK;have c3:=h3.cell 0;simp at c3;have a6:=run_convert_bytes_back (P:=Tryz.prog) W 139 9 5 ⟨w.heap.size+1,0,none⟩ size (putSt size x ys).1 Tryz.underlying139 Tryz.underlying5 Tryz.underlying9 (fun j hj=>by
   have e:(Addr.add ⟨w.heap.size+1,0,none⟩ j)=⟨w.heap.size+1,j,none⟩:=by simp only[Addr.add];split<;>simp_all
   rw[e,h2.cell j];simp[byteCells,hj])
  rw[Dx]at a6
  gi_wp2
  refine⟨by simp,.inl ⟨_,_,rfl,run_takeDeferred hK,?_⟩⟩;exact⟨_,results_tmp rfl _ _ _,⟨ys,hys,rfl⟩,hB.trans (belowK_b (w:=w) (Nat.le_refl _) W D _ _ (by simp at hD;omega) hK rfl rfl)⟩
 case stop=>
  rintro D c pre W _ _ h _;exact h.elim
end
section
open Go.RowKit Go.Shelf
attribute [local go_sem] Ad Af Ag Ab Ai Ah
theorem Ho (x size:Nat)(hx:x<18446744073709551616)(hs:1<=size)(hs8:size<=8)(w:World):
 Calls Tryz.prog 175 #[.int .u64 x,.int .i64 size] w fun e w'=>e=.returned (.string (bs (be size x)))/\Below w.heap.size w w':=
 (callsIn_wide (n:=3)).1 ((Nq .wide 3 trivial trivial trivial rfl (by omega) x size hx hs hs8 w).mono fun e w' ⟨⟨ys,hy,he⟩,hb⟩=>⟨by rw[he,Nm _ _ _ hy];rfl,hb⟩)
def putS (x:Nat)(size:Int):List UInt8:=if 1<=size/\size<=8 then be size.toNat x else []
theorem Jt (w:World):PredAt Tryz.prog 105 #[] encR badRune w:=fun W r _=>by
 unfold FnGives;by_cases h1:(r:Int)<33
 · have h2:badRune r=true:=by simp[badRune];omega
   go_enter Tryz.func105,Tryz.ntmps105
   go_wp2
   go_ret
   exact⟨by first|rfl|(rw[h2];rfl),0,rfl⟩
 · by_cases h3:(126:Int)<r
   · have h2:badRune r=true:=by simp[badRune];omega
     go_enter Tryz.func105,Tryz.ntmps105
     go_wp2
     go_ret
     exact⟨by first|rfl|(rw[h2];rfl),0,rfl⟩
   · have h2:badRune r=false:=by simp[badRune];omega
     go_enter Tryz.func105,Tryz.ntmps105
     go_wp2
     go_ret
     exact⟨by first|rfl|(rw[h2];rfl),0,rfl⟩
theorem EC (l:List UInt8)(hl:l.length<=maxLen)(w:World):
 CR 65 #[.string (bs l)] w (.bool (nameOk l)):=by
 unfold maxLen at hl;by_cases h1:l=[]
 · subst h1;have hk:nameOk []=false:=rfl;go_enter Tryz.func65,Tryz.ntmps65
   go_wp2
   go_ret
   exact⟨rfl,Below.refl _ _⟩
 · have a1:l.isEmpty=false:=by simpa using h1
   by_cases h2:l.length<=8
   · have a2:decide ((l.length:Int)<=8)=true:=by simp;omega
     go_enter Tryz.func65,Tryz.ntmps65;go_wp2_with (go_at_call 104;refine(Tryz.strings_IndexFunc 105 #[] (enters_of Tryz.func105 (by kernel_rfl) rfl) badRune _ _ (Jt _)).mono ?_;rintro e w' ⟨rfl,hb⟩)
     go_ret
     refine⟨?_,hb⟩;have a0:=LR l;refine congrArg (fun b=>Ending.returned (.bool b)) ?_;simp only[nameOk,a1,Bool.not_false,Bool.true_and,h2,decide_true];rw[Bool.eq_iff_iff];simpa using a0
   · have a2:decide ((l.length:Int)<=8)=false:=by simp;omega
     have hk:nameOk l=false:=by simp[nameOk,h2]
     go_enter Tryz.func65,Tryz.ntmps65
     go_wp2
     go_ret
     exact⟨by rw[hk];rfl,Below.refl _ _⟩
theorem OP (c:Nat):Lib.repeatL [0] c=List.replicate c 0:=by
 induction c with
 |zero=>simp[Lib.repeatL]
 |succ c ih=>simp[Lib.repeatL,ih,List.replicate_succ]
theorem MX (l:List UInt8)(hl:l.length<=maxLen)(k:Int)(h:k<l.length\/65536<k)(w:World):
 Calls Tryz.prog 66 #[.string (bs l),.int .i64 k] w fun e w'=>e=.returned (.tuple #[.string (bs []),.int .i64 11])/\w=w':=by
 unfold maxLen at hl
 rcases h with h|h
 · go_enter Tryz.func66,Tryz.ntmps66
   go_wp2
   go_ret2
   exact⟨rfl,rfl⟩
 · by_cases h0:k<l.length
   · go_enter Tryz.func66,Tryz.ntmps66
     go_wp2
     go_ret2
     exact⟨rfl,rfl⟩
   · go_enter Tryz.func66,Tryz.ntmps66
     go_wp2
     go_ret2
     exact⟨rfl,rfl⟩
theorem EI (l:List UInt8)(hl:l.length<=maxLen)(k:Int)(h:(l.length:Int)<=k)(h2:k<=65536)(w:World):
 CR 66 #[.string (bs l),.int .i64 k] w (.tuple #[.string (bs (l++List.replicate (k.toNat-l.length) 0)),.int .i64 0]):=by
 unfold maxLen at hl;obtain⟨k,rfl⟩:=Int.eq_ofNat_of_zero_le (show 0<=k by omega);have a0:=fun W=>Tryz.strings_Repeat (bs [0]) (k-l.length) W (by omega) (by rw[Ab];simp;omega)
 rw[show((k-l.length:Nat):Int)=(k:Int)-l.length by omega,A9,OP,Ad]at a0;go_enter Tryz.func66,Tryz.ntmps66;go_wp2_with (go_at_call 106;refine(a0 _).mono ?_;rintro e w' ⟨rfl,hb⟩)
 go_ret2
 refine⟨?_,hb⟩;simp
theorem My (l:List UInt8)(h:nameOk l=true)(w:World):
 CR 26 #[.string (bs l)] w (.tuple #[.string (bs (l++List.replicate (8-l.length) 0)),.int .i64 0]):=by
 have hl:l.length<=8:=by simp[nameOk]at h;exact h.1.2
 have hm:l.length<=maxLen:=by unfold maxLen;omega
 go_enter Tryz.func26,Tryz.ntmps26;go_wp2_with (first|(go_at_call 65;refine(EC l hm _).mono ?_;rintro e w' ⟨rfl,hb⟩;rw[h])|(go_at_call 66;refine(EI l hm 8 (by omega) (by omega) _).mono ?_;rintro e w2 ⟨rfl,hb2⟩))
 go_ret2
 exact⟨rfl,bt hb hb2⟩
theorem Mx (l:List UInt8)(hm:l.length<=maxLen)(h:nameOk l=false)(w:World):
 CR 26 #[.string (bs l)] w (.tuple #[.string (bs []),.int .i64 19]):=by
 go_enter Tryz.func26,Tryz.ntmps26;go_wp2_with (go_at_call 65;refine(EC l hm _).mono ?_;rintro e w' ⟨rfl,hb⟩;rw[h])
 go_ret2
 exact⟨rfl,hb⟩
def takeR (l:List UInt8)(k:Int):Nat×List UInt8×Int:=if k<1\/8<k then(0,[],25)else if(l.length:Int)<k then(0,[],22)else(un (l.take k.toNat),l.drop k.toNat,0)
def padR (l:List UInt8)(k:Int):List UInt8×Int:=if k<l.length\/65536<k then([],11)else(l++List.replicate (k.toNat-l.length) 0,0)
theorem Fe (l:List UInt8)(k:Nat)(hk:k<=8):un (l.take k)<256^k:=by
 refine Nat.lt_of_lt_of_le (By _) (Nat.pow_le_pow_right (by omega) (by simp;omega))
theorem QN (l:List UInt8)(j:Nat)(h:j<l.length):un (l.take (j+1))=un (l.take j)*256+l[j].toNat:=by
 rw[List.take_succ_eq_append_getElem h,QM]
theorem QL (l:List UInt8)(j:Nat)(hj:j<8):un (l.take j)<72057594037927936:=by
 refine Nat.lt_of_lt_of_le (Fe l j (by omega)) ?_;refine Nat.le_trans (Nat.pow_le_pow_right (by omega) (show j<=7 by omega)) (by omega)
theorem Pf (l:List UInt8)(hl:l.length<=maxLen)(k:Int)(h:k<1\/8<k)(w:World):
 Calls Tryz.prog 96 #[.string (bs l),.int .i64 k] w fun e w'=>e=.returned (.tuple #[.int .u64 0,.string (bs []),.int .i64 25])/\w=w':=by
 unfold maxLen at hl
 rcases h with h|h
 · go_enter Tryz.func96,Tryz.ntmps96
   go_wp2
   go_ret3
   exact⟨rfl,rfl⟩
 · have h0:¬k<1:=by omega
   go_enter Tryz.func96,Tryz.ntmps96
   go_wp2
   go_ret3
   exact⟨rfl,rfl⟩
theorem Ph (l:List UInt8)(hl:l.length<=maxLen)(k:Int)(h1:1<=k)(h2:k<=8)(h:(l.length:Int)<k)(w:World):
 Calls Tryz.prog 96 #[.string (bs l),.int .i64 k] w fun e w'=>e=.returned (.tuple #[.int .u64 0,.string (bs []),.int .i64 22])/\w=w':=by
 unfold maxLen at hl;go_enter Tryz.func96,Tryz.ntmps96
 go_wp2
 go_ret3
 exact⟨rfl,rfl⟩
theorem Pg (l:List UInt8)(hl:l.length<=maxLen)(k:Int)(h1:1<=k)(h2:k<=8)(h:k<=(l.length:Int))(w:World):
 CR 96 #[.string (bs l),.int .i64 k] w (.tuple #[.int .u64 (un (l.take k.toNat)),.string (bs (l.drop k.toNat)),.int .i64 0]):=by
 unfold maxLen at hl;obtain⟨k,rfl⟩:=Int.eq_ofNat_of_zero_le (show 0<=k by omega);rw[Int.toNat_natCast];go_enter Tryz.func96,Tryz.ntmps96;go_wp2_with fail
 go_loop [7,8] (fun n i=>∃j:Nat,j<=k/\i=.int .i64 j/\n=.int .u64 (un (l.take j))) (fun _ i=>k-(intOf i).toNat)
 case atStart=>exact⟨0,by omega,rfl,rfl⟩
 case round=>
  obtain⟨j,hj,rfl,rfl⟩:=hrel;by_cases hlt:j<k
  · have hu:=QL l j (by omega);have a1:j<l.length:=by omega
    have a0:=(l[j]'(by omega)).toNat_lt;have Hun:=hid (QN l j (by omega));go_wp2_with fail
    go_round
    case rel=>exact⟨j+1,by omega,by go_num,by rw[Hun.out];go_num⟩
    case measure=>simp[intOf];omega
  · obtain rfl:j=k:=by omega
    go_wp2_with fail
    try go_quiet (fail)
    go_wp2
    go_ret3
    exact⟨by simp,Gi _ _⟩
theorem OX (l:List UInt8)(hl:l.length<=maxLen)(k:Int)(h:k<l.length\/65536<k)(w:World):
 Calls Tryz.prog 87 #[.string (bs l),.int .i64 k] w fun e w'=>e=.returned (.tuple #[.string (bs []),.int .i64 11])/\w=w':=by
 unfold maxLen at hl
 rcases h with h|h
 · go_enter Tryz.func87,Tryz.ntmps87
   go_wp2
   go_ret2
   exact⟨rfl,rfl⟩
 · by_cases h0:k<l.length
   · go_enter Tryz.func87,Tryz.ntmps87
     go_wp2
     go_ret2
     exact⟨rfl,rfl⟩
   · go_enter Tryz.func87,Tryz.ntmps87
     go_wp2
     go_ret2
     exact⟨rfl,rfl⟩
theorem EW (l:List UInt8)(hl:l.length<=maxLen)(k:Int)(h:(l.length:Int)<=k)(h2:k<=65536)(w:World):
 CR 87 #[.string (bs l),.int .i64 k] w (.tuple #[.string (bs (l++List.replicate (k.toNat-l.length) 0)),.int .i64 0]):=by
 unfold maxLen at hl;obtain⟨k,rfl⟩:=Int.eq_ofNat_of_zero_le (show 0<=k by omega);rw[Int.toNat_natCast];obtain⟨i0,hi,hz0,hz1,hz2⟩:=info_parts Tryz.infoByte;have a2:=fun W=>BK (P:=Tryz.prog) 139 5 i0 (.int .u8 0) Tryz.underlying139 hi hz0 .i64 .i64 (k-l.length) (k-l.length) (Nat.le_refl _) (by rw[hz2];omega) (by omega) W
 rw[hz1,Nat.mul_one,show((k-l.length:Nat):Int)=(k:Int)-l.length by omega]at a2;have a0:=run_convert_bytes_back (P:=Tryz.prog) (w.alloc (.cells (madeCells #[.int .u8 0] (k-l.length)) 5)) 139 9 5 ⟨w.heap.size,0,none⟩ (k-l.length) (List.replicate (k-l.length) 0) Tryz.underlying139 Tryz.underlying5 Tryz.underlying9 (fun j hj=>by
  have a1:j<k-l.length:=by simpa using hj
  have e:(Addr.add ⟨w.heap.size,0,none⟩ j)=⟨w.heap.size,j,none⟩:=by simp only[Addr.add];split<;>simp_all
  rw[e,(Blk.new w _ _).cell j,<-Array.getElem?_toList,toList_madeCells_one];simp[a1])
 rw[List.length_replicate,Ad]at a0;go_enter Tryz.func87,Tryz.ntmps87;go_wp2_with fail
 try go_quiet (fail)
 try go_wp2
 go_ret2
 exact⟨by simp,Yz _⟩
theorem OY (x size:Int)(w:World)(h:size<1\/8<size):
 Calls Tryz.prog 86 #[.int .u64 x,.int .i64 size] w fun e w'=>e=.returned (.string (bs []))/\w=w':=by
 rcases h with h|h
 · go_enter Tryz.func86,Tryz.ntmps86
   go_wp2
   go_ret
   exact⟨rfl,rfl⟩
 · have h0:¬size<1:=by omega
   go_enter Tryz.func86,Tryz.ntmps86
   go_wp2
   go_ret
   exact⟨rfl,rfl⟩
theorem BS (x k:Nat)(hx:x<18446744073709551616)(h1:1<=k)(h2:k<=8)(w:World):
 CR 86 #[.int .u64 x,.int .i64 k] w (.string (bs (be k x))):=by
 obtain⟨i0,hi,hz0,hz1,hz2⟩:=info_parts Tryz.infoByte;have a1:=fun W=>BK (P:=Tryz.prog) 139 5 i0 (.int .u8 0) Tryz.underlying139 hi hz0 .i64 .i64 k k (Nat.le_refl _) (by rw[hz2];omega) (by omega) W
 rw[hz1,Nat.mul_one]at a1;go_enter Tryz.func86,Tryz.ntmps86;go_wp2_with fail
 have b1:=Blk.new w 5 (madeCells #[.int .u8 0] k);have hB0:=Yz (W:=w) (.cells (madeCells #[.int .u8 0] k) 5);have a0:madeCells #[.int .u8 0] k=byteCells (List.replicate k 0):=by
  apply Array.toList_inj.1
  rw[toList_madeCells_one];simp[byteCells]
 rw[a0]at b1 hB0;simp only[Value.cells]at*;rw[a0];go_loopw [6] (fun i W=>∃j:Nat,j<=k/\i=.int .i64 j/\Blk W w.heap.size 5 (byteCells (List.replicate (k-j) 0++be j x))/\Below w.heap.size w W) (fun i _=>k-(intOf i).toNat)
 case atStart=>exact⟨0,by omega,rfl,by simpa[be]using b1,hB0⟩
 case round=>
  obtain⟨j,hj,rfl,hblk,hB⟩:=hrel;by_cases hlt:j<k
  · have f2:=hblk.frozen (k-1-j);have c2:∃v2,wr.cell? ⟨w.heap.size,k-1-j,none⟩=some v2:=by
     rw[hblk.cell];exact⟨_,Array.getElem?_eq_getElem (by simp[byteCells,Ar];omega)⟩
    obtain⟨v2,c2⟩:=c2;clear b1 hB0 a0 a1;go_wp2_with fail
    go_roundw
    case rel=>
     refine⟨j+1,by omega,by go_num,?_,hB.setCell (p:=⟨w.heap.size,k-1-j,none⟩) (Nat.le_refl _) _⟩;have h:=hblk.set (k-1-j) (.int .u8 ((x:Int)/2^(8*j)%256));have e:(byteCells (List.replicate (k-j) 0++be j x)).setIfInBounds (k-1-j) (.int .u8 ((x:Int)/2^(8*j)%256))=byteCells (List.replicate (k-(j+1)) 0++be (j+1) x):=by
      have e1:k-j=(k-(j+1))+1:=by omega
      have e2:Value.int .u8 ((x:Int)/2^(8*j)%256)=Value.int .u8 (UInt8.ofNat (x/256^j)).toNat:=by
       have e0:(2:Int)^(8*j)=((256^j:Nat):Int):=by
        rw[show(256:Nat)=2^8 from rfl,<-Nat.pow_mul,Int.natCast_pow];rfl
       rw[e0,<-Int.natCast_ediv];simp
      rw[e2,e1,List.replicate_succ',be,byteCells,byteCells,List.append_assoc,List.map_append,List.setIfInBounds_toArray,List.set_append_right _ _ (by simp;omega)];have e3:k-1-j-(List.map (fun b:UInt8=>Value.int .u8 b.toNat) (List.replicate (k-(j+1)) 0)).length=0:=by rw[List.length_map,List.length_replicate];omega
      rw[e3];simp
     rw[e]at h;exact h
    case measure=>simp[intOf];omega
  · obtain rfl:j=k:=by omega
    have a2:=run_convert_bytes_back (P:=Tryz.prog) wr 139 9 5 ⟨w.heap.size,0,none⟩ j (be j x) Tryz.underlying139 Tryz.underlying5 Tryz.underlying9 (fun i hi=>by
     have e:(Addr.add ⟨w.heap.size,0,none⟩ i)=⟨w.heap.size,i,none⟩:=by simp only[Addr.add];split<;>simp_all
     rw[e,hblk.cell i];simp[byteCells,hi])
    rw[Ar,Ad]at a2;go_wp2_with fail
    go_ret
    exact⟨rfl,hB⟩
theorem MW (l:List UInt8)(hl:l.length<=maxLen)(k:Int)(w:World):
 CR 66 #[.string (bs l),.int .i64 k] w (.tuple #[.string (bs (padR l k).1),.int .i64 (padR l k).2]):=by
 by_cases h:k<l.length\/65536<k
 · refine(MX l hl k h w).mono ?_;rintro e w' ⟨rfl,rfl⟩;exact⟨by rw[padR,if_pos h],Below.refl _ _⟩
 · refine(EI l hl k (by omega) (by omega) w).mono ?_;rintro e w' ⟨rfl,hb⟩;exact⟨by rw[padR,if_neg h],hb⟩
theorem DJ (l:List UInt8)(hl:l.length<=maxLen)(k:Int)(w:World):
 CR 96 #[.string (bs l),.int .i64 k] w (.tuple #[.int .u64 (takeR l k).1,.string (bs (takeR l k).2.1),.int .i64 (takeR l k).2.2]):=by
 by_cases h:k<1\/8<k
 · refine(Pf l hl k h w).mono ?_;rintro e w' ⟨rfl,rfl⟩;exact⟨by rw[takeR,if_pos h];rfl,Below.refl _ _⟩
 · by_cases h2:(l.length:Int)<k
   · refine(Ph l hl k (by omega) (by omega) h2 w).mono ?_;rintro e w' ⟨rfl,rfl⟩;exact⟨by rw[takeR,if_neg h,if_pos h2];rfl,Below.refl _ _⟩
   · refine(Pg l hl k (by omega) (by omega) (by omega) w).mono ?_;rintro e w' ⟨rfl,hb⟩;exact⟨by rw[takeR,if_neg h,if_neg h2],hb⟩
theorem EV (l:List UInt8)(hl:l.length<=maxLen)(k:Int)(w:World):
 CR 87 #[.string (bs l),.int .i64 k] w (.tuple #[.string (bs (padR l k).1),.int .i64 (padR l k).2]):=by
 by_cases h:k<l.length\/65536<k
 · refine(OX l hl k h w).mono ?_;rintro e w' ⟨rfl,rfl⟩;exact⟨by rw[padR,if_pos h],Below.refl _ _⟩
 · refine(EW l hl k (by omega) (by omega) w).mono ?_;rintro e w' ⟨rfl,hb⟩;exact⟨by rw[padR,if_neg h],hb⟩
theorem DI (x size:Int)(h0:0<=x)(hx:x<18446744073709551616)(w:World):
 CR 86 #[.int .u64 x,.int .i64 size] w (.string (bs (putS x.toNat size))):=by
 obtain⟨x,rfl⟩:=Int.eq_ofNat_of_zero_le h0;by_cases h:1<=size/\size<=8
 · obtain⟨k,rfl⟩:=Int.eq_ofNat_of_zero_le (show 0<=size by omega);refine(BS x k (by omega) (by omega) (by omega) w).mono ?_;rintro e w' ⟨rfl,hb⟩;exact⟨by rw[putS,if_pos h];simp,hb⟩
 · refine(OY x size w (by omega)).mono ?_;rintro e w' ⟨rfl,rfl⟩;exact⟨by rw[putS,if_neg h],Below.refl _ _⟩
def AK (l:List UInt8):List UInt8:=Lib.trimRightB l 0
theorem Gj (n:Nat)(l:List UInt8):(List.replicate n 0++l).dropWhile (· ==0)=l.dropWhile (· ==0):=by
 induction n with
 |zero=>rfl
 |succ n ih=>rw[List.replicate_succ,List.cons_append,List.dropWhile_cons];simp[ih]
theorem KW {l:List UInt8}(h:∀x∈l,x≠0):l.dropWhile (· ==0)=l:=by
 cases l with
 |nil=>rfl
 |cons a l=>rw[List.dropWhile_cons,if_neg (by simpa using h a (by simp))]
theorem Qz {s:List UInt8}(h:∀x∈s,x≠0)(n:Nat):AK (s++List.replicate n 0)=s:=by
 rw[AK,Lib.trimRightB,List.reverse_append,List.reverse_replicate,Gj,KW (fun x hx=>h x (by simpa using hx)),List.reverse_reverse]
theorem Qq (l:List UInt8):l.takeWhile (· ==0)=List.replicate (l.takeWhile (· ==0)).length 0:=by
 induction l with
 |nil=>rfl
 |cons a l ih=>
  rw[List.takeWhile_cons]
  split
  · rename_i h
    have:a=0:=by simpa using h
    subst this;rw[List.length_cons,List.replicate_succ,<-ih]
  · rfl
theorem I7 (l:List UInt8):∃n,l=AK l++List.replicate n 0:=by
 refine⟨(l.reverse.takeWhile (· ==0)).length,?_⟩;have h:=List.takeWhile_append_dropWhile (p:=(· ==(0:UInt8))) (l:=l.reverse);have h2:=congrArg List.reverse h;rw[List.reverse_reverse,List.reverse_append]at h2;rw[AK,Lib.trimRightB]
 conv=>lhs;rw[<-h2]
 congr 1
 rw[Qq l.reverse,List.reverse_replicate,List.length_replicate]
theorem Ch {l:List UInt8}(h:nameOk l=true):l.length<=8:=by
 simp only[nameOk,Bool.and_eq_true,decide_eq_true_eq]at h;exact h.1.2
def nameR (l:List UInt8):List UInt8×Int:=if nameOk l=true then(l++List.replicate (8-l.length) 0,0)else([],19)
def toNameR (l:List UInt8):List UInt8×Int:=if l.length≠8 then([],11)else if nameOk (AK l)=true then(AK l,0)else([],19)
theorem GU (l:List UInt8)(hm:l.length<=maxLen)(w:World):
 CR 26 #[.string (bs l)] w (.tuple #[.string (bs (nameR l).1),.int .i64 (nameR l).2]):=by
 by_cases h:nameOk l=true
 · refine(My l h w).mono ?_;rintro e w' ⟨rfl,hb⟩;exact⟨by rw[nameR,if_pos h],hb⟩
 · refine(Mx l hm (by simpa using h) w).mono ?_;rintro e w' ⟨rfl,hb⟩;exact⟨by rw[nameR,if_neg h],hb⟩
theorem Qx (l:List UInt8)(hm:l.length<=maxLen)(w:World):
 CR 140 #[.string (bs l)] w (.tuple #[.string (bs (toNameR l).1),.int .i64 (toNameR l).2]):=by
 have a2:=hm;unfold maxLen at a2;by_cases h1:l.length=8
 · have a1:=fun W=>Tryz.strings_TrimRight_one (bs l) 0 (by decide) W (by rw[Ab];exact a2)
   rw[A9]at a1;have a3:(AK l).length<=maxLen:=by
    obtain⟨n,hn⟩:=I7 l;have:l.length=(AK l).length+n:=by conv=>lhs;rw[hn];simp
    omega
   have a0:=fun W=>EC (AK l) a3 W
   have Hw:=hid (show toNameR l=if nameOk (AK l)=true then(AK l,0)else([],19) by rw[toNameR,if_neg (by omega)]);rw[show(⟨(Lib.trimRightB l 0).toArray⟩:ByteArray)=bs (AK l)from rfl]at a1;generalize AK l=t at*;cases hk:nameOk t with
   |true=>
    rw[hk]at a0 Hw;go_enter Tryz.func140,Tryz.ntmps140;go_wp2_with fail
    refine(a1 _).mono ?_;rintro e w1 ⟨rfl,rfl⟩;go_wp2_with fail
    refine(a0 _).mono ?_;rintro e w2 ⟨rfl,hb2⟩;go_wp2_with fail
    go_ret2
    exact⟨by rw[Hw.out];rfl,hb2⟩
   |false=>
    rw[hk]at a0 Hw;go_enter Tryz.func140,Tryz.ntmps140;go_wp2_with fail
    refine(a1 _).mono ?_;rintro e w1 ⟨rfl,rfl⟩;go_wp2_with fail
    refine(a0 _).mono ?_;rintro e w2 ⟨rfl,hb2⟩;go_wp2_with fail
    go_ret2
    exact⟨by rw[Hw.out];rfl,hb2⟩
 · have Hw:=hid (show toNameR l=([],11) by rw[toNameR,if_pos h1]);have n0:((l.length:Int) !=8)=true:=by simp;omega
   go_enter Tryz.func140,Tryz.ntmps140;go_wp2_with fail
   go_ret2
   exact⟨by rw[Hw.out];rfl,Below.refl _ _⟩
end
section
structure Sn where
 id:Nat
 l1:Int
 name:List UInt8
deriving DecidableEq
namespace Sn
def zero:Sn:=⟨0,0,[]⟩
def ok (s:Sn):Bool:=decide (s=zero)||(decide (s.id≠0)&&(decide (0<=s.l1)&&decide (s.l1<256))&&nameOk s.name)
def bytes (s:Sn):List UInt8:=if s=zero then List.replicate 16 0 else be 4 s.id++be 2 s.l1.toNat++[0,0]++(s.name++List.replicate (8-s.name.length) 0)
def of (b:List UInt8):Sn:=if b=List.replicate 16 0 then zero else⟨un (b.take 4),un (cut b 4 2),(toNameR (b.drop 8)).1⟩
theorem EF {s:Sn}(h:s.ok=true):s=zero\/(s≠zero/\s.id≠0/\(0<=s.l1/\s.l1<256)/\nameOk s.name=true):=by
 by_cases hz:s=zero
 · exact .inl hz
 · refine .inr ⟨hz,?_⟩;simp[ok,hz]at h;exact⟨h.1.1,h.1.2,h.2⟩
theorem bytes_length {s:Sn}(h:s.ok=true):s.bytes.length=16:=by
 rcases EF h with rfl|⟨hz,h1,h2,h3⟩
 · rfl
 · have:=Ch h3;rw[bytes,if_neg hz];simp[Ar];omega
def good (b:List UInt8):Bool:=(of b).ok&&decide ((of b).bytes=b)
end Sn
structure Dm where
 name:List UInt8
 use:Bool
 bits:List Bool
deriving DecidableEq
def bitRow (f:Nat->Bool)(b0:List UInt8)(n:Nat):List UInt8:=(List.range n).foldl (fun b k=>if f k then b.set (8+k/8) (UInt8.ofNat ((b.getD (8+k/8) 0).toNat ||| 2^(k%8)))else b) b0
theorem Cz (f:Nat->Bool)(b0:List UInt8)(n:Nat):bitRow f b0 (n+1)=if f n then(bitRow f b0 n).set (8+n/8) (UInt8.ofNat (((bitRow f b0 n).getD (8+n/8) 0).toNat ||| 2^(n%8)))else bitRow f b0 n:=by
 unfold bitRow;rw[List.range_succ,List.foldl_append];rfl
theorem Cy (f:Nat->Bool)(b0:List UInt8)(n:Nat):(bitRow f b0 n).length=b0.length:=by
 induction n with
 |zero=>rfl
 |succ n ih=>rw[Cz];split<;>simp[ih]
theorem CY (a:UInt8)(k:Nat)(hk:k<8):(UInt8.ofNat (a.toNat ||| 2^k)).toNat=a.toNat ||| 2^k:=by
 have h1:a.toNat ||| 2^k<256:=Nat.or_lt_two_pow (n:=8) a.toNat_lt (Nat.pow_lt_pow_right (by omega) hk);rw[UInt8.toNat_ofNat',Nat.mod_eq_of_lt (by omega)]
namespace Dm
def zero:Dm:=⟨[],false,List.replicate 64 false⟩
def ok (m:Dm):Bool:=decide (m=zero)||nameOk m.name
def useByte (u:Bool):UInt8:=if u then 1 else 0
def flags (u:Bool):List UInt8:=useByte u::List.replicate 15 0
def tail (m:Dm):List UInt8:=bitRow (fun k=>m.bits.getD k false) (flags m.use) 64
def bytes (m:Dm):List UInt8:=if m=zero then List.replicate 64 0 else At ((m.name++List.replicate (8-m.name.length) 0)++m.tail)
def bitAt (b:List UInt8)(k:Nat):Bool:=(b.getD (16+k/8) 0).toNat.testBit (k%8)
def of (b:List UInt8):Dm:=if b=List.replicate 64 0 then zero else⟨(toNameR (b.take 8)).1,decide (b.getD 8 0=1),(List.range 64).map (bitAt b)⟩
theorem flags_length (u:Bool):(flags u).length=16:=by simp[flags]
theorem tail_length (m:Dm):m.tail.length=16:=by rw[tail,Cy,flags_length]
theorem EF {m:Dm}(h:m.ok=true):m=zero\/(m≠zero/\nameOk m.name=true):=by
 by_cases hz:m=zero
 · exact .inl hz
 · refine .inr ⟨hz,?_⟩;simpa[ok,hz]using h
theorem bytes_length {m:Dm}(h:m.ok=true):m.bytes.length=64:=by
 rcases EF h with rfl|⟨hz,h3⟩
 · decide
 · have:=Ch h3;rw[bytes,if_neg hz,CH];simp[tail_length];omega
theorem bits_length (b:List UInt8):(of b).bits.length=64:=by
 unfold of
 split
 · decide
 · simp
def good (b:List UInt8):Bool:=(of b).ok&&decide ((of b).bytes=b)
end Dm
namespace Pn
variable {D:Dk} {L X:Pn}
def dmGet (D:Dk)(L:Pn)(i:Nat):Dm×Int:=
 if(look D L (4+i)).2≠0 then(Dm.zero,(look D L (4+i)).2)else if Dm.good (look D L (4+i)).1=true then(Dm.of (look D L (4+i)).1,0)else(Dm.zero,14)
def maps (D:Dk)(L:Pn):List Dm×Int:=allN (dmGet D L) 2
def dmSet (L:Pn)(i:Int)(m:Dm):Pn×Int:=if i<0\/2<=i then(L,10)else if m.ok=false then(L,25)else L.set (4+i) m.bytes
def rtSet (L:Pn)(l:Int)(n:Nat):Pn×Int:=if l<0\/256<=l then(L,10)else L.set 1 (rtHead l.toNat n)
end Pn
end
section
structure Im where
 d:Dk
 g:Int
 h:Nat
 j:Jr
 maps:List Dm
 br:Bool
namespace Im
def nameds:List Dm->Bool
 |[]=>true
 |m::r=>nameOk m.name&&(m.use&&r.all fun o=>nameOk o.name&&(o.use&&decide (m.name≠o.name)))
def fit (x:Im):Bool:=geomFit x.g x.h&&(x.d.fit&&(decide (x.d.sz=96+2*x.h)&&(jrFit x.j&&(decide (x.maps.length<=2)&&nameds x.maps))))
where geomFit (g:Int) (h:Nat):Bool:=decide (0<g)&&(decide (g<=64)&&(decide (8<=h)&&decide (h<=256)))
structure Ok (x:Im):Prop where
 d:x.d.fit=true
 g:0<x.g/\x.g<=64
 h:8<=x.h/\x.h<=256
 seq:x.j.seq<18446744073709551615
 pos: -9223372036854775808<=x.j.pos/\x.j.pos<=9223372036854775807
 maps:x.maps.length<=2
 bits:∀m∈x.maps,m.bits.length=64
def markM (k:Int)(l:List Dm):List Dm:=if k<0\/64<=k then l else l.map fun m=>{m with bits:=m.bits.set k.toNat true}
def mark (x:Im)(k:Int):Im:={x with maps:=markM k x.maps}
def clus (D:Dk)(k:Int):List UInt8×Int:=
 if(D.read (96+2*k)).2≠0 then([],(D.read (96+2*k)).2)else if(D.read (96+2*k+1)).2≠0 then([],(D.read (96+2*k+1)).2)else((D.read (96+2*k)).1++(D.read (96+2*k+1)).1,0)
def rd (D:Dk)(l1 u:Int):List UInt8×Int:=
 if(Pn.tabFind D Pn.none l1 u).2≠0 then([],(Pn.tabFind D Pn.none l1 u).2)else if(Pn.tabFind D Pn.none l1 u).1.1=1 then clus D (Pn.tabFind D Pn.none l1 u).1.2 else(List.replicate 128 0,0)
noncomputable def done (x:Im) (L:Pn):Im×Int:=
 if(jrCommit x.d x.j L).2.2≠0 then({x with d:=(jrCommit x.d x.j L).1,br:=true},(jrCommit x.d x.j L).2.2)else({x with d:=(jrCommit x.d x.j L).1,j:=(jrCommit x.d x.j L).2.1},0)
def placeAt (k off:Int)(s:List UInt8)(i:Nat)(D:Dk):Dk×Int:=
 if min (off+s.length) (((i:Int)+1)*64)<=max off (i*64)then(D,0)else if(D.read (96+2*k+i)).2≠0 then(D,(D.read (96+2*k+i)).2)
 else D.write (96+2*k+i) (over (D.read (96+2*k+i)).1 (max off (i*64)-i*64).toNat ((s.take (min (off+s.length) (((i:Int)+1)*64)-off).toNat).drop (max off (i*64)-off).toNat))
def place (D:Dk)(k off:Int)(s:List UInt8):Dk×Int:=Dk.next (placeAt k off s 0 D) (placeAt k off s 1)
def fill (D:Dk)(k:Int)(b:List UInt8):Dk×Int:=Dk.next (D.write (96+2*k) (b.take 64)) fun E=>E.write (96+2*k+1) (b.drop 64)
noncomputable def writeNew (x:Im) (l1 u off:Int) (s:List UInt8):Im×Int:=
 if(Pn.alTake x.d Pn.none x.h).2.2≠0 then(x,(Pn.alTake x.d Pn.none x.h).2.2)else if(rd x.d l1 u).2≠0 then(x,(rd x.d l1 u).2)
 else if(fill x.d (Pn.alTake x.d Pn.none x.h).2.1 (over (rd x.d l1 u).1 off.toNat s)).2≠0 then({x with d:=(fill x.d (Pn.alTake x.d Pn.none x.h).2.1 (over (rd x.d l1 u).1 off.toNat s)).1},(fill x.d (Pn.alTake x.d Pn.none x.h).2.1 (over (rd x.d l1 u).1 off.toNat s)).2)
 else pointed {x with d:=(fill x.d (Pn.alTake x.d Pn.none x.h).2.1 (over (rd x.d l1 u).1 off.toNat s)).1} (Pn.alTake x.d Pn.none x.h).1 u 1 (Pn.alTake x.d Pn.none x.h).2.1
where pointed (x:Im) (L:Pn) (u K A:Int):Im×Int:=if(Pn.ptPoint x.d L x.g x.h u K A).2≠0 then(x,(Pn.ptPoint x.d L x.g x.h u K A).2)else done x (Pn.ptPoint x.d L x.g x.h u K A).1
noncomputable def writeIn (x:Im) (u off:Int) (s:List UInt8):Im×Int:=
 if(Pn.rtGet x.d Pn.none).2≠0 then(x,(Pn.rtGet x.d Pn.none).2)else if(Pn.tabFind x.d Pn.none (Pn.rtGet x.d Pn.none).1.1 u).2≠0 then(x,(Pn.tabFind x.d Pn.none (Pn.rtGet x.d Pn.none).1.1 u).2)
 else if(Pn.tabFind x.d Pn.none (Pn.rtGet x.d Pn.none).1.1 u).1.1≠1 then writeNew x (Pn.rtGet x.d Pn.none).1.1 u off s
 else if(Pn.cntGet x.d Pn.none (Pn.tabFind x.d Pn.none (Pn.rtGet x.d Pn.none).1.1 u).1.2).2≠0 then(x,(Pn.cntGet x.d Pn.none (Pn.tabFind x.d Pn.none (Pn.rtGet x.d Pn.none).1.1 u).1.2).2)
 else if(Pn.cntGet x.d Pn.none (Pn.tabFind x.d Pn.none (Pn.rtGet x.d Pn.none).1.1 u).1.2).1<=1 then
  ({x with d:=(place x.d (Pn.tabFind x.d Pn.none (Pn.rtGet x.d Pn.none).1.1 u).1.2 off s).1},(place x.d (Pn.tabFind x.d Pn.none (Pn.rtGet x.d Pn.none).1.1 u).1.2 off s).2)
 else writeNew x (Pn.rtGet x.d Pn.none).1.1 u off s
noncomputable def write (x:Im) (u off:Int) (s:List UInt8):Im×Int:=
 if x.br=true then(x,24)else if(u<0\/x.g<=u)\/off<0\/128<s.length\/128-(s.length:Int)<off then(x,10)else if s=[]then(x,0)else writeIn (x.mark u) u off s
noncomputable def wipeIn (x:Im) (u:Int) (hole:Bool):Im×Int:=
 if(Pn.rtGet x.d Pn.none).2≠0 then(x,(Pn.rtGet x.d Pn.none).2)else if(Pn.tabFind x.d Pn.none (Pn.rtGet x.d Pn.none).1.1 u).2≠0 then(x,(Pn.tabFind x.d Pn.none (Pn.rtGet x.d Pn.none).1.1 u).2)
 else if(Pn.tabFind x.d Pn.none (Pn.rtGet x.d Pn.none).1.1 u).1=(if hole then(0,0)else(2,0))then(x,0)else writeNew.pointed x Pn.none u (if hole then 0 else 2) 0
noncomputable def wipe (x:Im) (u:Int) (hole:Bool):Im×Int:=if x.br=true then(x,24)else if u<0\/x.g<=u then(x,10)else wipeIn (x.mark u) u hole
def cutGo:Nat->Int->Int->List (Int×Int×Int)
 |0,_,_=>[]
 |f+1,a,n=>if n<=0 then []else(a/128,a%128,min n (128-a%128))::cutGo f (a+min n (128-a%128)) (n-min n (128-a%128))
def cuts (a n:Int):List (Int×Int×Int):=if a<0\/n<0\/1073741824<a\/65536<n then []else cutGo n.toNat a n
def within (g a n:Int):Bool:=decide (0<=a)&&(decide (0<=n)&&(decide (n<=128*g)&&decide (a<=128*g-n)))
noncomputable def clearStep (hole:Bool) (X:Im×Int) (p:Int×Int×Int):Im×Int:=
 if X.2≠0 then X else if p.2.2=128 then wipe X.1 p.1 hole else write X.1 p.1 p.2.1 (List.replicate p.2.2.toNat 0)
noncomputable def clear (x:Im) (a n:Int) (hole:Bool):Im×Int:=if x.br=true then(x,24)else if within x.g a n=false then(x,10)else(cuts a n).foldl (clearStep hole) (x,0)
theorem Mq (k:Int)(l:List Dm):(markM k l).length=l.length:=by unfold markM;split<;>simp
theorem Mp {k:Int}{l:List Dm}(h:∀m∈l,m.bits.length=64):∀m∈markM k l,m.bits.length=64:=by
 intro m hm;unfold markM at hm
 split at hm
 · exact h m hm
 · obtain⟨o,ho,rfl⟩:=List.mem_map.1 hm;simpa using h o ho
theorem Ok.mark {x:Im}(h:x.Ok)(k:Int):(x.mark k).Ok:=⟨h.d,h.g,h.h,h.seq,h.pos,by show(markM k x.maps).length<=2;rw[Mq];exact h.maps,Mp h.bits⟩
theorem Ok.withD {x:Im}(h:x.Ok){D:Dk}(hD:D.fit=true):({x with d:=D}:Im).Ok:=⟨hD,h.g,h.h,h.seq,h.pos,h.maps,h.bits⟩
theorem GB {D:Dk}{j:Jr}{L:Pn}(h:(jrCommit D j L).2.2=0):(jrCommit D j L).2.1=j\/(j.seq<4611686018427387904/\(jrCommit D j L).2.1.seq=j.seq+1/\0<=(jrCommit D j L).2.1.pos/\(jrCommit D j L).2.1.pos<=10000):=by
 unfold jrCommit at h ⊢
 split
 · exact .inl rfl
 split
 · exact .inl rfl
 rename_i h1 h2
 rw[if_neg h1,if_neg h2]at h
 split
 · exact .inl rfl
 · right
   have hl:=DT (⟨j.seq,L⟩:Tx);refine⟨by omega,rfl,?_⟩;show 0<=jrAt j L+((jrRows j L).length:Int)/\jrAt j L+((jrRows j L).length:Int)<=10000;have hr:(jrRows j L).length<=27:=hl;have:=Di (pos:=j.pos) (size:=((jrRows j L).length:Int)) (by omega) (by omega);unfold jrAt;omega
theorem Ok.done {x:Im}(h:x.Ok)(L:Pn):(x.done L).1.Ok/\(x.done L).1.maps=x.maps/\(x.done L).1.g=x.g/\(x.done L).1.h=x.h:=by
 have hf:=L9 h.d x.j L;unfold Im.done
 split
 · exact⟨⟨hf,h.g,h.h,h.seq,h.pos,h.maps,h.bits⟩,rfl,rfl,rfl⟩
 · rename_i h0
   refine⟨⟨hf,h.g,h.h,?_,?_,h.maps,h.bits⟩,rfl,rfl,rfl⟩
   · have:=h.seq
     rcases GB (Classical.not_not.1 h0)with e|⟨e1,e2,_⟩
     · show(jrCommit x.d x.j L).2.1.seq<_;rw[e];exact h.seq
     · show(jrCommit x.d x.j L).2.1.seq<_;omega
   · have:=h.pos
     rcases GB (Classical.not_not.1 h0)with e|⟨_,_,e1,e2⟩
     · show-9223372036854775808<=(jrCommit x.d x.j L).2.1.pos/\_;rw[e];exact h.pos
     · show-9223372036854775808<=(jrCommit x.d x.j L).2.1.pos/\(jrCommit x.d x.j L).2.1.pos<=_;omega
structure Left (x:Im) (l:List Dm) (y:Im):Prop where
 ok:y.Ok
 maps:y.maps=l
 g:y.g=x.g
 h:y.h=x.h
theorem Left.refl {x:Im}(h:x.Ok):Left x x.maps x:=⟨h,rfl,rfl,rfl⟩
theorem Left.done {x y:Im}{l:List Dm}(h:Left x l y)(L:Pn):Left x l (y.done L).1:=by
 obtain⟨a,b,c,d⟩:=h.ok.done L;exact⟨a,b.trans h.maps,c.trans h.g,d.trans h.h⟩
theorem Left.withD {x y:Im}{l:List Dm}(h:Left x l y){D:Dk}(hD:D.fit=true):Left x l {y with d:=D}:=⟨h.ok.withD hD,h.maps,h.g,h.h⟩
theorem Left.pointed {x y:Im}{l:List Dm}(h:Left x l y)(L:Pn)(u K A:Int):Left x l (writeNew.pointed y L u K A).1:=by
 unfold writeNew.pointed
 split
 · exact h
 · exact h.done _
theorem Gl {D:Dk}(h:D.fit=true)(k:Int)(b:List UInt8):(fill D k b).1.fit=true:=Dk.next_fit (Dk.write_fit h _ _) fun E hE=>Dk.write_fit hE _ _
theorem placeAt_fit {D:Dk}(h:D.fit=true)(k off:Int)(s:List UInt8)(i:Nat):(placeAt k off s i D).1.fit=true:=by
 unfold placeAt
 split
 · exact h
 split
 · exact h
 · exact Dk.write_fit h _ _
theorem place_fit {D:Dk}(h:D.fit=true)(k off:Int)(s:List UInt8):(place D k off s).1.fit=true:=Dk.next_fit (placeAt_fit h k off s 0) fun E hE=>placeAt_fit hE k off s 1
theorem Left.writeNew {x y:Im}{l:List Dm}(h:Left x l y)(l1 u off:Int)(s:List UInt8):Left x l (y.writeNew l1 u off s).1:=by
 unfold Im.writeNew
 split
 · exact h
 split
 · exact h
 split
 · exact h.withD (Gl h.ok.d _ _)
 · exact(h.withD (Gl h.ok.d _ _)).pointed _ _ _ _
theorem Left.writeIn {x y:Im}{l:List Dm}(h:Left x l y)(u off:Int)(s:List UInt8):Left x l (y.writeIn u off s).1:=by
 unfold Im.writeIn
 split
 · exact h
 split
 · exact h
 split
 · exact h.writeNew _ _ _ _
 split
 · exact h
 split
 · exact h.withD (place_fit h.ok.d _ _ _)
 · exact h.writeNew _ _ _ _
theorem Left.wipeIn {x y:Im}{l:List Dm}(h:Left x l y)(u:Int)(b:Bool):Left x l (y.wipeIn u b).1:=by
 unfold Im.wipeIn
 split
 · exact h
 split
 · exact h
 by_cases hc:(Pn.tabFind y.d Pn.none (Pn.rtGet y.d Pn.none).1.1 u).1=(if b then(0,0)else(2,0))
 · rw[if_pos hc];exact h
 · rw[if_neg hc];exact h.pointed _ _ _ _
def Covers (l m:List Dm):Prop:=l.map (·.name)=m.map (·.name)/\∀(i:Nat)(a b:Dm),l[i]? =some a->m[i]? =some b->∀k,a.bits.getD k false=true->b.bits.getD k false=true
theorem Covers.refl (l:List Dm):Covers l l:=⟨rfl,fun i a b h1 h2 k hk=>by rw[h1]at h2;injection h2 with h2;rw[<-h2];exact hk⟩
theorem Covers.trans {l m o:List Dm}(h:Covers l m)(h2:Covers m o):Covers l o:=⟨h.1.trans h2.1,fun i a c h3 h4 k hk=>by
 have hl:=congrArg List.length h.1;rw[List.length_map,List.length_map]at hl;have hi:=(List.getElem?_eq_some_iff.1 h3).1;have e:m[i]? =some (m[i]'(by omega)):=List.getElem?_eq_getElem (by omega);exact h2.2 i _ c e h4 k (h.2 i a _ h3 e k hk)⟩
structure Kept (x y:Im):Prop where
 ok:y.Ok
 maps:Covers x.maps y.maps
 g:y.g=x.g
 h:y.h=x.h
theorem Kept.refl {x:Im}(h:x.Ok):Kept x x:=⟨h,Covers.refl _,rfl,rfl⟩
theorem Kept.trans {x y z:Im}(h:Kept x y)(h2:Kept y z):Kept x z:=⟨h2.ok,h.maps.trans h2.maps,h2.g.trans h.g,h2.h.trans h.h⟩
end Im
end
section
open Go.RowKit Go.Shelf
theorem blk3 {w:World}{g:Nat}{t:TypeId}{a b c:Value}(h:Blk w g t #[a,b,c]):w.cell? ⟨g,0,none⟩=some a/\w.cell? ⟨g,1,none⟩=some b/\w.cell? ⟨g,2,none⟩=some c:=⟨h.cell 0,h.cell 1,h.cell 2⟩
theorem Ii (w:World):(callFunc 218 #[]).run Tryz.prog w=.ok (.value (.tuple #[])) w:=run_call_mark0 Tryz.func218 (by kernel_rfl) (by kernel_rfl) (by kernel_rfl) .disable (by kernel_rfl) w
theorem Ij (w:World):(callFunc 220 #[]).run Tryz.prog w=.ok (.value (.tuple #[])) w:=run_call_mark0 Tryz.func220 (by kernel_rfl) (by kernel_rfl) (by kernel_rfl) .enable (by kernel_rfl) w
theorem OJ (a:Addr)(w:World):(callFunc 221 #[.pointer (some a)]).run Tryz.prog w=.ok (.value (.tuple #[])) w:=run_call_marked Tryz.func221 (by kernel_rfl) (by kernel_rfl) (by kernel_rfl) .acquire (by kernel_rfl) a w
theorem OL (a:Addr)(w:World):(callFunc 223 #[.pointer (some a)]).run Tryz.prog w=.ok (.value (.tuple #[])) w:=run_call_marked Tryz.func223 (by kernel_rfl) (by kernel_rfl) (by kernel_rfl) .releaseMerge (by kernel_rfl) a w
theorem PK (a:Addr)(x:Value)(u:FrameMode)(w:World)(hc:w.cell? a=some x)(hz:w.frozen? a=false):
 CallsD Tryz.prog 211 #[.pointer (some a),.bool true] u w fun e u' w'=>u'=u/\(e=.returned (.tuple #[])/\w'=w.drew.setCell a (.int .u32 1)):=by
 have a0:w.drew.cell? a=some x:=by go_simp
 have a1:w.drew.frozen? a=false:=by go_simp
 have a2:=run_call_store (P:=Tryz.prog) Tryz.func215 (by kernel_rfl) (by kernel_rfl) (by kernel_rfl) (by kernel_rfl) (k:=.u32) (y:=1) a0 a1
 go_enter_d Tryz.func211,Tryz.ntmps211
 go_wp2
 go_region_calls
 all_goals (go_end0;exact⟨rfl,rfl⟩)
theorem QO (a:Addr)(u:FrameMode)(w:World)(hc:w.cell? a=some (.int .i32 1))(hz:w.frozen? a=false):
 CallsD Tryz.prog 210 #[.pointer (some a)] u w fun e u' w'=>u'=u/\(e=.returned (.tuple #[])/\w'=w.setCell a (.int .i32 0)):=by
 have hd:=Ii;have he:=Ij;have hr:=OL;have a0:=run_call_add (P:=Tryz.prog) Tryz.func224 (by kernel_rfl) (by kernel_rfl) (by kernel_rfl) .i32 (by kernel_rfl) (y:= -1) (s:=0) hc hz (by simp[go_sem];rfl);have a1:=run_convert_to_unsafe (P:=Tryz.prog) (src:=289) (dst:=251) Tryz.underlying289 Tryz.underlying251 (by kernel_rfl) hc
 go_enter_d Tryz.func210,Tryz.ntmps210
 go_wp2
 go_end0
 go_wp2
 go_end0
 exact⟨rfl,rfl⟩
theorem Mo (a:Addr)(w:World)(hc:w.cell? a=some (.int .i32 0))(hz:w.frozen? a=false):
 Calls Tryz.prog 209 #[.pointer (some a)] w fun e w'=>e=.returned (.tuple #[])/\w'=w.setCell a (.int .i32 1):=by
 have hd:=Ii;have he:=Ij;have ha:=OJ;have a1:=run_call_cas_hit (P:=Tryz.prog) Tryz.func219 (by kernel_rfl) (by kernel_rfl) (by kernel_rfl) .i32 (by kernel_rfl) (y:=1) hc hz;have a0:(w.setCell a (.int .i32 1)).cell? a=some (.int .i32 1):=World.cell?_setCell_same w a _ hc;have a2:=run_convert_to_unsafe (P:=Tryz.prog) (src:=289) (dst:=251) Tryz.underlying289 Tryz.underlying251 (by kernel_rfl) a0;go_enter Tryz.func209,Tryz.ntmps209
 go_wp2
 first|go_end0|(simp only[Exit.inBlock,Exit.then];refine bodyPost_ret (results_none rfl _ _ _) rfl ?_)|refine bodyPost_ret (results_none rfl _ _ _) rfl ?_
 go_wp2
 go_end0
 exact⟨rfl,rfl⟩
attribute [local go_sem] Ad Af Ag Ab Ai Ah
theorem JO (w:World)(e:TypeId)(l:List UInt8):Below w.heap.size w (Lib.bytesWorld w e (bs l))/\RowB (Lib.bytesWorld w e (bs l)) w.heap.size l:=by
 refine⟨⟨rfl,rfl,rfl,by rw[Lib.bytesWorld_size];omega,fun k hk=>Lib.bytesWorld_at_old w e _ k hk⟩,fun j hj=>⟨?_,?_⟩⟩
 · rw[Lib.bytesWorld_cell w e (bs l) j (by rw[Ab];exact hj),A9];simp[hj]
 · have hs:l.length<=(Lib.bytesCells w e (bs l)).size:=by simp[Lib.bytesCells,bs]
   simp only[World.frozen?,Lib.bytesWorld_at_new];simp;omega
theorem FR (n:Nat):∀c,crcN (n+1) c=crc1 (crcN n c):=by
 induction n with
 |zero=>intro c;rfl
 |succ n ih=>intro c;rw[crcN,ih];rfl
def sumCells (d s:Int)(T:List Nat):Array Value:=([Value.int .u32 d,.int .i32 s,.int .u32 0]++T.map (fun(n:Nat)=>Value.int .u32 (n:Int))).toArray
theorem E6 (d s:Int)(T:List Nat):(sumCells d s T)[0]? =some (.int .u32 d):=by simp[sumCells]
theorem IN (d s:Int)(T:List Nat):(sumCells d s T)[1]? =some (.int .i32 s):=by simp[sumCells]
theorem IP (d s:Int)(T:List Nat)(i:Nat)(h:i<T.length):(sumCells d s T)[3+i]? =some (.int .u32 T[i]):=by
 simp only[sumCells,List.getElem?_toArray];rw[List.getElem?_append_right (by simp)];simp[h]
theorem PM (d s:Int)(T:List Nat)(i:Nat)(n:Nat):(sumCells d s T).setIfInBounds (3+i) (.int .u32 n)=sumCells d s (T.set i n):=by
 simp only[sumCells,List.setIfInBounds_toArray];rw[List.set_append_right _ _ (by simp)];simp[List.map_set]
theorem PN (d d' s:Int)(T:List Nat):(sumCells d s T).setIfInBounds 0 (.int .u32 d')=sumCells d' s T:=by simp[sumCells]
theorem IM (d s s':Int)(T:List Nat):(sumCells d s T).setIfInBounds 1 (.int .i32 s')=sumCells d s' T:=by simp[sumCells]
def tabN (i:Nat):List Nat:=(List.range 256).map fun j=>if j<i then crcN 8 j else 0
theorem Fb (i:Nat):(tabN i).length=256:=by simp[tabN]
theorem Qj (i:Nat)(h:i<256):(tabN i).set i (crcN 8 i)=tabN (i+1):=by
 apply List.ext_getElem (by simp[tabN])
 intro j h1 h2;simp only[tabN,List.getElem_set,List.getElem_map,List.getElem_range];by_cases e:i=j
 · subst e;simp
 · rw[if_neg e];by_cases hj:j<i
   · rw[if_pos hj,if_pos (by omega)]
   · rw[if_neg hj,if_neg (by omega)]
theorem Qi (i:Nat)(h:i<256):(tabN 256)[i]'(by rw[Fb];exact h)=crcN 8 i:=by simp[tabN,h]
theorem J3 {c:Nat}(h:c<4294967296):bits .xor .u32 ((c:Int)/2) (bits .and .u32 (c:Int) 1*2197175160%4294967296)=((crc1 c:Nat):Int):=by
 have e1:bits .and .u32 (c:Int) 1=(((c &&& 1:Nat)):Int):=u32_and_nat c 1 h (by omega);have e2:((c:Int)/(2:Int))=(((c >>> 1:Nat)):Int):=by rw[Nat.shiftRight_eq_div_pow];omega
 have h1:c &&& 1<=1:=by rw[Nat.and_one_is_mod];omega
 have e3:(((c &&& 1:Nat)):Int)*2197175160%4294967296=(((c &&& 1)*2197175160:Nat):Int):=by
  rw[Int.emod_eq_of_lt (by omega) (by omega)];omega
 rw[e1,e3,e2,u32_xor_nat _ _ (by rw[Nat.shiftRight_eq_div_pow];omega) (by omega)];rfl
theorem Lm (g:Nat)(t:TypeId)(d s:Int)(w:World)(hg:Blk w g t (sumCells d s (tabN 0))):
 Calls Tryz.prog 193 #[.pointer (some ⟨g,0,none⟩)] w fun e w'=>e=.returned (.tuple #[])/\Blk w' g t (sumCells d s (tabN 256))/\Below g w w':=by
 go_enter Tryz.func193,Tryz.ntmps193;go_wp2_with fail
 go_loopw [4] (fun u W=>∃i:Nat,i<=256/\u=.int .i64 i/\Blk W g t (sumCells d s (tabN i))/\Below g w W) (fun u _=>256-(intOf u).toNat)
 case atStart=>exact⟨0,by omega,rfl,hg,Below.refl _ _⟩
 case round=>
  obtain⟨i,hi,rfl,hb,hw⟩:=hrel;clear hg;by_cases hlt:i<256
  · go_wp2_with fail
    go_loopw [3,9] (fun c u W=>∃k:Nat,k<=8/\u=.int .i64 k/\c=.int .u32 (crcN k i)/\W=wr) (fun c u _=>8-(intOf u).toNat)
    case atStart=>exact⟨0,by omega,rfl,by simp[crcN],rfl⟩
    case round=>
     obtain⟨k,hk,rfl,rfl,rfl⟩:=hrel;have a1:=C4 k (c:=i) (by omega);have Hn:=hid (FR k i);obtain⟨c,hc⟩:∃c,crcN k i=c:=⟨_,rfl⟩;rw[hc]at a1 Hn ⊢;have Hc:=hid hc;clear hc;by_cases hlk:k<8
     · have He:=hid (J3 a1);go_wp2_with fail
       refine⟨⟨k+1,by omega,by go_num,by rw[He.out,Hn.out],trivial⟩,?_⟩;simp[intOf];omega
     · obtain rfl:k=8:=by omega
       have a0:=hb.set (3+i) (.int .u32 (c:Int));have Hs:=hid (show(sumCells d s (tabN i)).setIfInBounds (3+i) (.int .u32 (c:Int))=sumCells d s (tabN (i+1)) by rw[PM,<-Hc.out,Qj _ hlt]);have a2:wr.cell? ⟨g,3+i,none⟩=some (.int .u32 ((tabN i)[i]'(by rw[Fb];exact hlt):Nat)):=by rw[hb.cell,IP]
       have a3:=hb.frozen (3+i);go_wp2_with fail
       refine⟨⟨i+1,by omega,by go_num,by rw[<-Hs.out];exact a0,hw.setCell (p:=⟨g,3+i,none⟩) (Nat.le_refl _) _⟩,?_⟩;simp[intOf];omega
  · obtain rfl:i=256:=by omega
    go_wp2_with fail
    go_end0
    exact⟨rfl,hb,hw⟩
theorem FG (a:Addr)(x:Int)(w:World)(hc:w.cell? a=some (.int .u32 x)):
 Calls Tryz.prog 201 #[.pointer (some a)] w fun e w'=>e=.returned (.bool (x !=0))/\w'=w:=by
 have hl:=run_call_load (P:=Tryz.prog) Tryz.func208 (by kernel_rfl) (by kernel_rfl) (by kernel_rfl) .u32 (by kernel_rfl) hc;go_enter Tryz.func201,Tryz.ntmps201
 go_wp2
 go_ret
 exact⟨rfl,rfl⟩
theorem PD (g:Nat)(t:TypeId)(w:World)(hg:Blk w g t (sumCells 0 0 (tabN 0))):
 Calls Tryz.prog 202 #[.pointer (some ⟨g,0,none⟩),.func (.func 193) #[.pointer (some ⟨g,0,none⟩)] #[]] w fun e w'=>e=.returned (.tuple #[])/\
  Blk w' g t (sumCells 1 0 (tabN 256))/\Below g w w':=by
 have a2:Blk (w.setCell ⟨g,1,none⟩ (.int .i32 1)) g t (sumCells 0 1 (tabN 0)):=by
  have:=hg.set 1 (.int .i32 1)
  rwa [IM]at this
 have c1:w.cell? ⟨g,1,none⟩=some (.int .i32 0):=by rw[hg.cell,IN]
 have f1:=hg.frozen 1;have c0:(w.setCell ⟨g,1,none⟩ (.int .i32 1)).cell? ⟨g,0,none⟩=some (.int .u32 0):=by rw[a2.cell,E6]
 have a3:Below g w (w.setCell ⟨g,1,none⟩ (.int .i32 1)):=(Below.refl _ _).setCell (p:=⟨g,1,none⟩) (Nat.le_refl _) _;have a6:=FG ⟨g,0,none⟩ 0 _ c0;have a0:=Lm g t 0 1 _ a2;clear a2 c0
 go_enter_defers Tryz.func202,Tryz.ntmps202
 go_wp2_with (first|(go_at_call 209;refine(Mo ⟨g,1,none⟩ _ c1 f1).mono ?_;rintro e w' ⟨rfl,rfl⟩)|(go_at_call 193;refine a0.mono ?_;rintro e w2 ⟨rfl,hb2,hw2⟩)|(go_at_call 201;refine a6.mono ?_;rintro e w' ⟨rfl,rfl⟩))
 refine leaves_cons (f:=211) (args:=#[.pointer (some ⟨g,0,none⟩),.bool true]) (by simp) (by simp[go_sem]) ?_;refine(PK ⟨g,0,none⟩ (.int .u32 0) .returning _ (by rw[hb2.cell,E6]) (hb2.frozen 0)).mono ?_;rintro e u' w'' ⟨rfl,rfl,rfl⟩;have a1:Blk (w2.drew.setCell ⟨g,0,none⟩ (.int .u32 1)) g t (sumCells 1 1 (tabN 256)):=by
  have:=hb2.drew.set 0 (.int .u32 1)
  rwa [PN]at this
 refine leaves_cons (f:=210) (args:=#[.pointer (some ⟨g,1,none⟩)]) (by simp[settle]) (by simp[go_sem]) ?_;refine(QO ⟨g,1,none⟩ _ _ (by rw[a1.cell,IN]) (a1.frozen 1)).mono ?_;rintro e u' w'' ⟨rfl,rfl,rfl⟩;have a4:Blk ((w2.drew.setCell ⟨g,0,none⟩ (.int .u32 1)).setCell ⟨g,1,none⟩ (.int .i32 0)) g t (sumCells 1 0 (tabN 256)):=by
  have:=a1.set 1 (.int .i32 0)
  rwa [IM]at this
 have a5:Below g w ((w2.drew.setCell ⟨g,0,none⟩ (.int .u32 1)).setCell ⟨g,1,none⟩ (.int .i32 0)):=((a3.trans hw2).drew.setCell (p:=⟨g,0,none⟩) (Nat.le_refl _) _).setCell (p:=⟨g,1,none⟩) (Nat.le_refl _) _;simp[Leaves,settle,results,Tryz.results202];exact⟨a4,a5⟩
theorem KU (g:Nat)(t:TypeId)(w:World)(hg:Blk w g t (sumCells 0 0 (tabN 0))):
 Calls Tryz.prog 192 #[.pointer (some ⟨g,0,none⟩),.func (.func 193) #[.pointer (some ⟨g,0,none⟩)] #[]] w fun e w'=>e=.returned (.tuple #[])/\
  Blk w' g t (sumCells 1 0 (tabN 256))/\Below g w w':=by
 have a0:=FG ⟨g,0,none⟩ 0 w (by rw[hg.cell,E6]);have a1:=PD g t w hg;clear hg;go_enter Tryz.func192,Tryz.ntmps192;go_wp2_with (first|(go_at_call 202;refine a1.mono ?_;rintro e w2 ⟨rfl,hb2,hw2⟩)|(go_at_call 201;refine a0.mono ?_;rintro e w' ⟨rfl,rfl⟩))
 go_end0
 exact⟨rfl,hb2,hw2⟩
theorem PP (g:Nat)(w:World)(hg:Blk w g 247 (sumCells 0 0 (tabN 0)))(c:Nat)(hc:c<4294967296)(l:List UInt8)(hl:l.length<=140737488355328):
 Calls Tryz.prog 178 #[.pointer (some ⟨g,0,none⟩),.int .u32 c,.string (bs l)] w fun e w'=>e=.returned (.int .u32 (crcL c l:Nat))/\Below g w w':=by
 have a2:=KU g 247 w hg;have a1:=fun(W:World)=>Lib.run_convert_string_bytes (P:=Tryz.prog) W 9 139 5 (bs l) Tryz.underlying9 Tryz.underlying139 Tryz.underlying5
 simp only[Ab]at a1;clear hg;go_enter Tryz.func178,Tryz.ntmps178;go_wp2_with (go_at_call 192;refine a2.mono ?_;rintro e w2 ⟨rfl,hb2,hw2⟩)
 have a7:g<w2.heap.size:=hb2.lt;obtain⟨q1,q2⟩:=JO w2 5 l;have a5:=hb2.below q1 a7;have a8:=hw2.trans (q1.mono (by omega));generalize grownCap w2 l.length 0 5=cap at*;generalize Lib.bytesWorld w2 5 (bs l)=w3 at*;clear q1 a1 hb2 hw2 a2;have a3:=hid (fun(x:Nat)(h:x<256)=>show w3.cell? ⟨g,3+x,none⟩=some (.int .u32 ((crcN 8 x:Nat):Int)) by
  rw[a5.cell,IP _ _ _ _ (by rw[Fb];exact h),Qi x h])
 go_loopw [1,18] (fun cc u W=>∃i:Nat,i<=l.length/\u=.int .i64 i/\cc=.int .u32 (crcL c (l.take i):Nat)/\W=w3) (fun cc u _=>l.length-(intOf u).toNat)
 case atStart=>exact⟨0,Nat.zero_le _,rfl,rfl,rfl⟩
 case round=>
  obtain⟨i,hi,rfl,rfl,rfl⟩:=hrel;have a9:=BC (l.take i) hc;by_cases hlt:i<l.length
  · have Hn:=hid (show crcL c (l.take (i+1))=crcB (crcL c (l.take i)) l[i] by rw[List.take_succ_eq_append_getElem hlt,FO]);obtain⟨q3,_⟩:=q2 i hlt;generalize crcL c (l.take i)=cc at*;generalize l[i]=b at*;have a6:b.toNat<256:=b.toNat_lt;have hX:bits .xor .u8 ((cc:Int)%256) (b.toNat:Int)=((((cc%256) ^^^ b.toNat:Nat)):Int):=by
     have:=u8_xor_nat (cc%256) b.toNat (by omega) a6;rw[<-this];rfl
    have hm:(cc%256) ^^^ b.toNat<256:=Nat.xor_lt_two_pow (n:=8) (by omega) (by omega);have hB:=J9 cc b;obtain⟨m,hme⟩:∃m,(cc%256) ^^^ b.toNat=m:=⟨_,rfl⟩;rw[hme]at hX hm hB;have a4:=hid (show crcL c (l.take (i+1))=crcN 8 m ^^^ (cc >>> 8)from Hn.out.trans hB);clear hme hB;have ht:=a3.out m hm;have a0:=C4 8 (c:=m) (by omega);have He:=hid (show bits .xor .u32 ((crcN 8 m:Nat):Int) ((cc:Int)/256)=((crcN 8 m ^^^ (cc >>> 8):Nat):Int) by
     have:=u32_xor_nat (crcN 8 m) (cc >>> 8) a0 (by rw[Nat.shiftRight_eq_div_pow];omega);rw[<-this]
     congr 1
     rw[Nat.shiftRight_eq_div_pow];omega)
    go_wp2_with fail
    refine⟨⟨i+1,by omega,by go_num,by rw[He.out,a4.out],trivial⟩,?_⟩;simp[intOf];omega
  · obtain rfl:i=l.length:=by omega
    rw[List.take_length];go_wp2_with fail
    go_ret
    exact⟨rfl,a8⟩
theorem MD (s:Nat)(h:s<4294967296):4294967295 ^^^ s=4294967295-s:=by
 have e:=congrArg BitVec.toNat (BitVec.allOnes_xor (x:=BitVec.ofNat 32 s));rw[BitVec.toNat_xor,BitVec.toNat_not,BitVec.toNat_allOnes,BitVec.toNat_ofNat,Nat.mod_eq_of_lt h]at e;exact e
theorem Dp (s:Nat)(h:s<4294967296):bits .xor .u32 IntKind.u32.max (s:Int)=(((4294967295-s:Nat)):Int):=by
 rw[<-MD s h];exact u32_xor_nat 4294967295 s (by omega) h
theorem Qk:tabN 0=List.replicate 256 0:=by
 have e:(fun j=>if j<0 then crcN 8 j else 0)=fun _=>0:=by funext j;rw[if_neg (Nat.not_lt_zero j)]
 rw[tabN,e,List.map_const',List.length_range]
theorem Tryz.summer_zero0:Tryz.zeroCells247=sumCells 0 0 (List.replicate 256 0):=by kernel_rfl
theorem Tryz.summer_zero:Tryz.zeroCells247=sumCells 0 0 (tabN 0):=by rw[Qk,Tryz.summer_zero0]
theorem Tryz.summer_new (w:World):Blk (w.alloc (.cells Tryz.zeroCells247 247)) w.heap.size 247 (sumCells 0 0 (tabN 0)):=
 Eq.subst (motive:=fun c=>Blk (w.alloc (.cells Tryz.zeroCells247 247)) w.heap.size 247 c) Tryz.summer_zero (Blk.new w 247 Tryz.zeroCells247)
theorem FV (s:Nat)(hs:s<4294967296)(l:List UInt8)(hl:l.length<=140737488355328)(w:World):
 CR 149 #[.int .u32 s,.string (bs l)] w (.int .u32 (crcMore s l:Nat)):=by
 have hx:=Dp s hs;have hg:=Tryz.summer_new w;have hb:=Yz (W:=w) (.cells Tryz.zeroCells247 247);have a0:4294967295-s<4294967296:=by omega
 have He:=hid (show crcMore s l=4294967295-crcL (4294967295-s) l from rfl);obtain⟨m,hme⟩:∃m,4294967295-s=m:=⟨_,rfl⟩;rw[hme]at hx a0 He;have hm:=PP w.heap.size _ hg m a0 l hl;have a1:=BC l (c:=m) a0;have hy:=Dp (crcL m l) a1;obtain⟨v,hv⟩:∃v,crcL m l=v:=⟨_,rfl⟩;rw[hv]at hm hy He;obtain⟨r,hr⟩:∃r,4294967295-v=r:=⟨_,rfl⟩;rw[hr]at hy He;clear hg hme hv hr a1 a0;have a2:IntKind.u32.signed=false:=rfl;rw[He.out];go_enter Tryz.func149,Tryz.ntmps149;go_wp2_with (go_at_call 178;refine hm.mono ?_;rintro e w2 ⟨rfl,hw2⟩)
 go_ret
 exact⟨rfl,hb.trans hw2⟩
theorem Kh (l:List UInt8)(hl:l.length<=140737488355328)(w:World):
 CR 147 #[.string (bs l)] w (.int .u32 (crcOf l:Nat)):=by
 have hm:=FV 0 (by omega) l hl w;unfold crcOf;generalize crcMore 0 l=r at*;go_enter Tryz.func147,Tryz.ntmps147;go_wp2_with (go_at_call 149;refine hm.mono ?_;rintro e w2 ⟨rfl,hw2⟩)
 go_ret
 exact⟨rfl,hw2⟩
theorem Kf {c:Nat}(h:c<4294967296):(c%2=1->bits .xor .u32 ((c:Int)/2) 2197175160=((crc1 c:Nat):Int))/\(c%2=0->(c:Int)/2=((crc1 c:Nat):Int)):=by
 have e2:((c:Int)/(2:Int))=(((c >>> 1:Nat)):Int):=by rw[Nat.shiftRight_eq_div_pow];omega
 constructor
 · intro h1;rw[e2,show(2197175160:Int)=((2197175160:Nat):Int) by rfl,u32_xor_nat _ _ (by rw[Nat.shiftRight_eq_div_pow];omega) (by omega)];rw[crc1,Nat.and_one_is_mod,h1,Nat.one_mul]
 · intro h0;rw[e2,crc1,Nat.and_one_is_mod,h0,Nat.zero_mul,Nat.xor_zero]
theorem H0 (s:Nat)(hs:s<4294967296)(l:List UInt8)(hl:l.length<=140737488355328)(w:World):
 Calls Tryz.prog 124 #[.int .u32 s,.string (bs l)] w fun e w'=>e=.returned (.int .u32 (crcMore s l:Nat))/\w=w':=by
 have hx:=Dp s hs;have a0:4294967295-s<4294967296:=by omega
 have He:=hid (show crcMore s l=4294967295-crcL (4294967295-s) l from rfl);obtain⟨m,hme⟩:∃m,4294967295-s=m:=⟨_,rfl⟩;rw[hme]at hx a0 He;have a7:IntKind.u32.signed=false:=rfl;have hy:=Dp (crcL m l) (BC l a0);obtain⟨v,hv⟩:∃v,crcL m l=v:=⟨_,rfl⟩;rw[hv]at hy He;obtain⟨r,hr⟩:∃r,4294967295-v=r:=⟨_,rfl⟩;rw[hr]at hy He;have Hv:=hid hv;have Hy:=hid hy;rw[He.out];clear hme He hv hr hy;go_enter Tryz.func124,Tryz.ntmps124;go_wp2_with fail
 go_loop [5,6] (fun c u=>∃i:Nat,i<=l.length/\u=.int .i64 i/\c=.int .u32 (crcL m (l.take i):Nat)) (fun c u=>l.length-(intOf u).toNat)
 case atStart=>exact⟨0,Nat.zero_le _,rfl,rfl⟩
 case round=>
  obtain⟨i,hi,rfl,rfl⟩:=hrel;have a1:=BC (l.take i) a0;clear hx;by_cases hlt:i<l.length
  · have Hn:=hid (show crcL m (l.take (i+1))=crcB (crcL m (l.take i)) l[i] by rw[List.take_succ_eq_append_getElem hlt,FO]);generalize crcL m (l.take i)=cc at*;have a6:l[i].toNat<256:=l[i].toNat_lt;have hX:bits .xor .u32 (cc:Int) (l[i].toNat:Int)=(((cc ^^^ l[i].toNat:Nat)):Int):=u32_xor_nat cc _ a1 (by omega);have a4:cc ^^^ l[i].toNat<4294967296:=Nat.xor_lt_two_pow (n:=32) a1 (by omega);have a3:=hid (show crcL m (l.take (i+1))=crcN 8 (cc ^^^ l[i].toNat)from Hn.out);generalize cc ^^^ l[i].toNat=y at*;clear Hn;go_wp2_with fail
    go_loop [5,7] (fun c u=>∃k:Nat,k<=8/\u=.int .i64 k/\c=.int .u32 (crcN k y:Nat)) (fun c u=>8-(intOf u).toNat)
    case atStart=>exact⟨0,by omega,rfl,rfl⟩
    case round=>
     obtain⟨k,hk,rfl,rfl⟩:=hrel;clear hX;have a2:=C4 k a4;have Hk:=hid (FR k y);by_cases hlk:k<8
     · obtain⟨s1,s0⟩:=Kf a2;obtain⟨z,hz⟩:∃z,crcN k y=z:=⟨_,rfl⟩;rw[hz]at a2 Hk s1 s0 ⊢;clear hz
       rcases Nat.mod_two_eq_zero_or_one z with h|h
       · have S:=hid (s0 h);have a5:((((z:Int)%2)==1)=false):=by simp;omega
         clear s1 s0 h;go_wp2_with fail
         refine⟨⟨k+1,by omega,by go_num,by rw[S.out,Hk.out]⟩,?_⟩;simp[intOf];omega
       · have S:=hid (s1 h);have a5:((((z:Int)%2)==1)=true):=by simp;omega
         clear s1 s0 h;go_wp2_with fail
         refine⟨⟨k+1,by omega,by go_num,by rw[S.out,Hk.out]⟩,?_⟩;simp[intOf];omega
     · obtain rfl:k=8:=by omega
       clear Hk;go_wp2_with fail
       refine⟨⟨i+1,by omega,by go_num,by rw[a3.out]⟩,?_⟩;simp[intOf];omega
  · obtain rfl:i=l.length:=by omega
    rw[List.take_length,Hv.out];have hy:=Hy.out;go_wp2_with fail
    go_ret
    exact⟨rfl,rfl⟩
theorem DF (l:List UInt8)(hl:l.length<=140737488355328)(w:World):
 Calls Tryz.prog 89 #[.string (bs l)] w fun e w'=>e=.returned (.int .u32 (crcOf l:Nat))/\w=w':=by
 have hm:=H0 0 (by omega) l hl w;unfold crcOf;generalize crcMore 0 l=r at*;go_enter Tryz.func89,Tryz.ntmps89;go_wp2_with (go_at_call 124;refine hm.mono ?_;rintro e w2 ⟨rfl,rfl⟩)
 go_ret
 exact⟨rfl,rfl⟩
theorem be4 (s:Nat):be 4 s=[UInt8.ofNat (s/16777216),UInt8.ofNat (s/65536),UInt8.ofNat (s/256),UInt8.ofNat s]:=by
 simp[be]
theorem QK (n:Nat):Value.int .u8 ((UInt8.ofNat n).toNat:Int)=.int .u8 ((n:Int)%256):=by
 congr 1
def crcCells (s:Nat)(i:Nat):Array Value:=#[.int .u8 (if 0<i then(s:Int)/16777216 else 0),.int .u8 (if 1<i then(s:Int)/65536%256 else 0),.int .u8 (if 2<i then(s:Int)/256%256 else 0),.int .u8 (if 3<i then(s:Int)%256 else 0)]
theorem FN {s:Nat}(hs:s<4294967296):crcCells s 4=byteCells (be 4 s):=by
 simp only[crcCells,byteCells,be4,List.map_cons,List.map_nil,QK];simp;omega
theorem Kg (s:Nat)(hs:s<4294967296)(w:World):
 CR 151 #[.int .u32 s] w (.string (bs (be 4 s))):=by
 have h0:=Blk.new w 248 (crcCells s 0);have hb0:=Yz (W:=w) (.cells (crcCells s 0) 248);simp only[crcCells,Nat.lt_irrefl,Nat.not_lt_zero,if_false]at h0 hb0;go_enter Tryz.func151,Tryz.ntmps151;go_wp2_with fail
 go_loopw [5] (fun u W=>∃i:Nat,i<=4/\u=.int .i64 i/\Blk W w.heap.size 248 (crcCells s i)/\Below w.heap.size w W) (fun u _=>4-(intOf u).toNat)
 case atStart=>exact⟨0,by omega,rfl,h0,hb0⟩
 case round=>
  obtain⟨i,hi,rfl,hk,hb⟩:=hrel;clear h0 hb0;have f0:=hk.fz;obtain rfl|rfl|rfl|rfl|rfl:i=0\/i=1\/i=2\/i=3\/i=4:=by omega
  · have c0:wr.cell? ⟨w.heap.size,0,none⟩=some (.int .u8 0):=hk.cell 0;go_wp2_with fail
    refine⟨⟨1,by omega,rfl,?_,hb.setCell (Nat.le_refl _) _⟩,by decide⟩;have a1:=hk.set 0 (.int .u8 ((s:Int)/16777216));simpa[crcCells]using a1
  · have c0:wr.cell? ⟨w.heap.size,1,none⟩=some (.int .u8 0):=hk.cell 1;go_wp2_with fail
    refine⟨⟨2,by omega,rfl,?_,hb.setCell (Nat.le_refl _) _⟩,by decide⟩;have a1:=hk.set 1 (.int .u8 ((s:Int)/65536%256));simpa[crcCells]using a1
  · have c0:wr.cell? ⟨w.heap.size,2,none⟩=some (.int .u8 0):=hk.cell 2;go_wp2_with fail
    refine⟨⟨3,by omega,rfl,?_,hb.setCell (Nat.le_refl _) _⟩,by decide⟩;have a1:=hk.set 2 (.int .u8 ((s:Int)/256%256));simpa[crcCells]using a1
  · have c0:wr.cell? ⟨w.heap.size,3,none⟩=some (.int .u8 0):=hk.cell 3;go_wp2_with fail
    refine⟨⟨4,by omega,rfl,?_,hb.setCell (Nat.le_refl _) _⟩,by decide⟩;have a1:=hk.set 3 (.int .u8 ((s:Int)%256));simpa[crcCells]using a1
  · have a0:∀j (hj:j<(be 4 s).length),wr.cell? ((⟨w.heap.size,0,none⟩:Addr).add j)=some (.int .u8 ((be 4 s)[j].toNat:Int)):=fun j hj=>by
     rw[Bj,hk.cell,FN hs,Nat.zero_add];simp[byteCells,hj]
    have a2:=run_convert_bytes_back (P:=Tryz.prog) wr 139 9 5 ⟨w.heap.size,0,none⟩ 4 (be 4 s) Tryz.underlying139 Tryz.underlying5 Tryz.underlying9 a0;rw[Ar]at a2;clear a0 hk;go_wp2_with fail
    go_ret
    exact⟨rfl,hb⟩
theorem DE (s:Nat)(hs:s<4294967296)(w:World):
 CR 88 #[.int .u32 s] w (.string (bs (be 4 s))):=by
 have hk:=Blk.new w 5 (crcCells s 4);have a0:∀j (hj:j<(be 4 s).length),(w.alloc (.cells (crcCells s 4) 5)).cell? ((⟨w.heap.size,0,none⟩:Addr).add j)=some (.int .u8 ((be 4 s)[j].toNat:Int)):=fun j hj=>by
  rw[Bj,hk.cell,FN hs,Nat.zero_add];simp[byteCells,hj]
 have a1:=run_convert_bytes_back (P:=Tryz.prog) (w.alloc (.cells (crcCells s 4) 5)) 139 9 5 ⟨w.heap.size,0,none⟩ 4 (be 4 s) Tryz.underlying139 Tryz.underlying5 Tryz.underlying9 a0;rw[Ar]at a1;simp only[crcCells,Nat.reduceLT,if_true]at a1;clear a0 hk;go_enter Tryz.func88,Tryz.ntmps88;go_wp2_with fail
 go_ret
 exact⟨rfl,Yz (W:=w) _⟩
end
end Go.Proofs.YtmiilfnchfdfcaaGreatDoor
