/- Be: Regs, Ref01, Plan1, Ref01b, Plan3, Super1. -/
import Derived.Deep.RegionHeld3
import Derived.Maps.OwnIn
import Derived.StillTail
import Derived.Deep.Quiet
import Derived.Test.YtmiilfnchfdfcaaGreatDoorRows
import Derived.Shelf.SlicesE.Kit
import Derived.Test.YtmiilfnchfdfcaaGreatDoorBeDev4
import Derived.Laws.EntriesVeiled
set_option maxRecDepth 100000
set_option maxHeartbeats 40000000
set_option linter.unusedVariables false
namespace Go.Proofs.YtmiilfnchfdfcaaGreatDoor
section
theorem mixed:Tryz.prog.follows .mixedOrders=true:=by kernel_rfl
open Go.RowKit Go.Shelf
theorem BH (w:World)(o:Obj):Below w.heap.size w (w.alloc o):=Yz o
theorem cell_kept {X Y:World}{row:Option Nat}{a:Addr}{v:Value}(h:X.cell? a=some v)(hg:X.grownBy Y row)(hr:∀r,row=some r->∃o:Obj,X.heap[r]? =some o/\o.isCells=false):Y.cell? a=some v:=by
 have hb:Y.heap[a.block]? =X.heap[a.block]? :=hg.block a.block (Bb h) (fun e=>by
  obtain⟨o,ho,hc⟩:=hr a.block e.symm;simp only[World.cell?,ho]at h;cases o<;>simp_all [Obj.isCells])
 simp only[World.cell?,hb]at h ⊢;exact h
theorem Cells.kept {X Y:World}{row:Option Nat}{A:Option Addr}{cs:List Value}(h:Cells X A cs)(hg:X.grownBy Y row)(hr:∀r,row=some r->∃o:Obj,X.heap[r]? =some o/\o.isCells=false):Cells Y A cs:=by
 rcases h with h|⟨b,off,e,hc⟩
 · exact .inl h
 · exact .inr ⟨b,off,e,fun j u hu=>cell_kept (hc j u hu) hg hr⟩
theorem IsDk.kept {X Y:World}{row:Option Nat}{D:Dk}{p q:Pl}(h:IsDk X D p q)(hg:X.grownBy Y row)(hr:∀r,row=some r->∃o:Obj,X.heap[r]? =some o/\o.isCells=false):IsDk Y D p q:=
 {h with cache:=h.cache.kept hg hr,bad:=h.bad.kept hg hr}
theorem IsPn.kept {X Y:World}{row:Option Nat}{L:Pn}{p q:Pl}(h:IsPn X L p q)(hg:X.grownBy Y row)(hr:∀r,row=some r->∃o:Obj,X.heap[r]? =some o/\o.isCells=false):IsPn Y L p q:=
 {h with targets:=h.targets.kept hg hr,data:=h.data.kept hg hr}
theorem Aj {w:World}{g:Nat}{t:TypeId}{a b:Value}(h:Blk w g t #[a,b])(u v:Value):Blk ((w.setCell ⟨g,0,none⟩ u).setCell ⟨g,1,none⟩ v) g t #[u,v]:=by
 have:=(h.set 0 u).set 1 v;simpa using this
theorem AQ {w:World}{g k:Nat}{t:TypeId}{cs:Array Value}(h:Blk w k t cs)(hk:k≠g)(u v:Value):Blk ((w.setCell ⟨g,0,none⟩ u).setCell ⟨g,1,none⟩ v) k t cs:=
 (h.other (a:=⟨g,0,none⟩) hk u).other (a:=⟨g,1,none⟩) hk v
theorem Yk {B:Nat}{u W:World}{g:Nat}{v0 v1:Value}{k:Nat}{t:TypeId}{cs:Array Value}(h:Blk W k t cs)(hb:Below B u ((W.setCell ⟨g,0,none⟩ v0).setCell ⟨g,1,none⟩ v1))(hk:k≠g):Blk ((W.setCell ⟨g,0,none⟩ v0).setCell ⟨g,1,none⟩ v1) k t cs:=AQ h hk v0 v1
theorem Yl {B:Nat}{u W:World}{g:Nat}{v0 v1:Value}{t:TypeId}{a0 a1:Value}(h:Blk W g t #[a0,a1])(hb:Below B u ((W.setCell ⟨g,0,none⟩ v0).setCell ⟨g,1,none⟩ v1)):Blk ((W.setCell ⟨g,0,none⟩ v0).setCell ⟨g,1,none⟩ v1) g t #[v0,v1]:=Aj h v0 v1
theorem Ae {B:Nat}{w0 w:World}{g:Nat}(h:Below B w0 w)(hg:B<=g)(u v:Value):Below B w0 ((w.setCell ⟨g,0,none⟩ u).setCell ⟨g,1,none⟩ v):=
 (h.setCell (p:=⟨g,0,none⟩) hg u).setCell (p:=⟨g,1,none⟩) hg v
theorem Yk2 {U W:World}{g:Nat}{t t':TypeId}{a0 a1 v0 v1:Value}(x:Blk W g t #[a0,a1])(y:Blk U g t' #[v0,v1]):W.frozen? ⟨g,0,none⟩=false/\W.cell? ⟨g,0,none⟩=some a0/\(W.setCell ⟨g,0,none⟩ v0).frozen? ⟨g,1,none⟩=false/\(W.setCell ⟨g,0,none⟩ v0).cell? ⟨g,1,none⟩=some a1:=by
 have c0:=x;have c1:=c0.set 0 v0;simp only[List.setIfInBounds_toArray,List.set_cons_zero,List.set_cons_succ]at c1;exact⟨c0.frozen 0,c0.cell 0,c1.frozen 1,c1.cell 1⟩
theorem Ym2 {B:Nat}{u W:World}{g:Nat}{v0 v1:Value}{t:TypeId}{cs:Array Value}(h:Below B u W)(y:Blk ((W.setCell ⟨g,0,none⟩ v0).setCell ⟨g,1,none⟩ v1) g t cs)(hg:B<=g):Below B u ((W.setCell ⟨g,0,none⟩ v0).setCell ⟨g,1,none⟩ v1):=Ae h hg v0 v1
theorem IsPn.off2 {w:World}{L:Pn}{p q:Pl}(h:IsPn w L p q){g:Nat}(ho:PnOff g L p q)(u v:Value):IsPn ((w.setCell ⟨g,0,none⟩ u).setCell ⟨g,1,none⟩ v) L p q:=
 (h.off (a:=⟨g,0,none⟩) ho u).off (a:=⟨g,1,none⟩) ho v
theorem IsPn.oa {B:Nat}{u W:World}{g:Nat}{v0 v1:Value}{D:Pn}{p q:Pl}(h:IsPn W D p q)(hb:Below B u ((W.setCell ⟨g,0,none⟩ v0).setCell ⟨g,1,none⟩ v1))(ho:PnOff g D p q):IsPn ((W.setCell ⟨g,0,none⟩ v0).setCell ⟨g,1,none⟩ v1) D p q:=h.off2 ho v0 v1
theorem IsPn.off5 {w:World}{L:Pn}{p q:Pl}(h:IsPn w L p q){g:Nat}(ho:PnOff g L p q)(v0 v1 v2 v3 v4:Value):
 IsPn (((((w.setCell ⟨g,0,none⟩ v0).setCell ⟨g,1,none⟩ v1).setCell ⟨g,2,none⟩ v2).setCell ⟨g,3,none⟩ v3).setCell ⟨g,4,none⟩ v4) L p q:=
 ((((h.off (a:=⟨g,0,none⟩) ho v0).off (a:=⟨g,1,none⟩) ho v1).off (a:=⟨g,2,none⟩) ho v2).off (a:=⟨g,3,none⟩) ho v3).off (a:=⟨g,4,none⟩) ho v4
theorem IsPn.ob {B:Nat}{u W:World}{g:Nat}{v0 v1 v2 v3 v4:Value}{D:Pn}{p q:Pl}(h:IsPn W D p q)(hb:Below B u (((((W.setCell ⟨g,0,none⟩ v0).setCell ⟨g,1,none⟩ v1).setCell ⟨g,2,none⟩ v2).setCell ⟨g,3,none⟩ v3).setCell ⟨g,4,none⟩ v4))(ho:PnOff g D p q):IsPn (((((W.setCell ⟨g,0,none⟩ v0).setCell ⟨g,1,none⟩ v1).setCell ⟨g,2,none⟩ v2).setCell ⟨g,3,none⟩ v3).setCell ⟨g,4,none⟩ v4) D p q:=h.off5 ho v0 v1 v2 v3 v4
theorem IsDk.off2 {w:World}{D:Dk}{p q:Pl}(h:IsDk w D p q){g:Nat}(ho:DkOff g D p q)(u v:Value):IsDk ((w.setCell ⟨g,0,none⟩ u).setCell ⟨g,1,none⟩ v) D p q:=
 (h.off (a:=⟨g,0,none⟩) ho u).off (a:=⟨g,1,none⟩) ho v
theorem IsDk.oa {B:Nat}{u W:World}{g:Nat}{v0 v1:Value}{D:Dk}{p q:Pl}(h:IsDk W D p q)(hb:Below B u ((W.setCell ⟨g,0,none⟩ v0).setCell ⟨g,1,none⟩ v1))(ho:DkOff g D p q):IsDk ((W.setCell ⟨g,0,none⟩ v0).setCell ⟨g,1,none⟩ v1) D p q:=h.off2 ho v0 v1
theorem IsDk.off5 {w:World}{D:Dk}{p q:Pl}(h:IsDk w D p q){g:Nat}(ho:DkOff g D p q)(v0 v1 v2 v3 v4:Value):
 IsDk (((((w.setCell ⟨g,0,none⟩ v0).setCell ⟨g,1,none⟩ v1).setCell ⟨g,2,none⟩ v2).setCell ⟨g,3,none⟩ v3).setCell ⟨g,4,none⟩ v4) D p q:=
 ((((h.off (a:=⟨g,0,none⟩) ho v0).off (a:=⟨g,1,none⟩) ho v1).off (a:=⟨g,2,none⟩) ho v2).off (a:=⟨g,3,none⟩) ho v3).off (a:=⟨g,4,none⟩) ho v4
theorem IsDk.ob {B:Nat}{u W:World}{g:Nat}{v0 v1 v2 v3 v4:Value}{D:Dk}{p q:Pl}(h:IsDk W D p q)(hb:Below B u (((((W.setCell ⟨g,0,none⟩ v0).setCell ⟨g,1,none⟩ v1).setCell ⟨g,2,none⟩ v2).setCell ⟨g,3,none⟩ v3).setCell ⟨g,4,none⟩ v4))(ho:DkOff g D p q):IsDk (((((W.setCell ⟨g,0,none⟩ v0).setCell ⟨g,1,none⟩ v1).setCell ⟨g,2,none⟩ v2).setCell ⟨g,3,none⟩ v3).setCell ⟨g,4,none⟩ v4) D p q:=h.off5 ho v0 v1 v2 v3 v4
theorem Dt {w:World}{b b':Nat}{e e':TypeId}{s s' n n':Nat}{v v':Value}{xs xs':List Value}(h:w.ownsRow b e s v n xs)(h':w.ownsRow b' e' s' v' n' xs')(hne:e≠e'):v.ownBlock=none\/v.ownBlock≠v'.ownBlock:=by
 rcases h.2 with ⟨rfl,_⟩|⟨g,cap,cur,rfl,_,h3,_⟩
 · exact .inl rfl
 · right
   intro hh
   rcases h'.2 with ⟨rfl,_⟩|⟨g',cap',cur',rfl,_,h4,_⟩
   · cases hh
   · injection hh with hh
     have hh:g=g':=hh;subst hh;rw[h3]at h4;injection h4 with h4
     injection h4 with _ h4
     exact hne h4
theorem Bm {w:World}{b:Nat}{e t:TypeId}{s n g:Nat}{v:Value}{xs:List Value}{cs:Array Value}(h:w.ownsRow b e s v n xs)(hb:Blk w g t cs)(hne:t≠e):some g≠v.ownBlock:=by
 intro hh
 rcases h.2 with ⟨rfl,_⟩|⟨g',cap,cur,rfl,_,h3,_⟩
 · cases hh
 · injection hh with hh
   have hh:g=g':=hh;subst hh;rw[show w.heap[g]? =_ from hb]at h3;injection h3 with h3
   injection h3 with _ h3
   exact hne h3
theorem DX (w:World)(o:Obj)(t:TypeId)(cs:Array Value):Blk ((w.alloc o).alloc (.cells cs t)) (w.heap.size+1) t cs:=by
 have:=Blk.new (w.alloc o) t cs
 rwa [World.size_alloc]at this
theorem i64w {x:Int}(h: -9223372036854775808<=x/\x<=9223372036854775807):IntKind.i64.wrap x=x:=by simp[IntKind.wrap,IntKind.bits,IntKind.signed];omega
theorem u64w {x:Int}(h:0<=x/\x<=18446744073709551615):IntKind.u64.wrap x=x:=by simp[IntKind.wrap,IntKind.bits,IntKind.signed];omega
theorem Bu {w W W':World}{a0 a1 a2 a3 a4 a5 a6:Addr}{v0 v1 v2 v3 v4 v5 v6:Value}
 (h:(W.cell? a0=some v0/\W.cell? a1=some v1/\W.cell? a2=some v2/\W.cell? a3=some v3/\W.cell? a4=some v4)/\(W.cell? a5=some v5/\W.cell? a6=some v6)/\Below w.heap.size w W) (hb:Below W.heap.size W W'):
 (W'.cell? a0=some v0/\W'.cell? a1=some v1/\W'.cell? a2=some v2/\W'.cell? a3=some v3/\W'.cell? a4=some v4)/\(W'.cell? a5=some v5/\W'.cell? a6=some v6)/\Below w.heap.size w W':=by
 obtain⟨⟨h0,h1,h2,h3,h4⟩,⟨h5,h6⟩,hB⟩:=h;exact⟨⟨Av hb h0,Av hb h1,Av hb h2,Av hb h3,Av hb h4⟩,⟨Av hb h5,Av hb h6⟩,bt hB hb⟩
theorem LK {w W:World}{b0 b1 o0 o1 o2 o3 o4 o5 o6:Nat}{v0 v1 v2 v3 v4 v5 v6:Value}
 (h:(W.cell? ⟨b0,o0,none⟩=some v0/\W.cell? ⟨b0,o1,none⟩=some v1/\W.cell? ⟨b0,o2,none⟩=some v2/\W.cell? ⟨b0,o3,none⟩=some v3/\W.cell? ⟨b0,o4,none⟩=some v4)/\(W.cell? ⟨b1,o5,none⟩=some v5/\W.cell? ⟨b1,o6,none⟩=some v6)/\Below w.heap.size w W)
 {g:Nat} (g0:b0≠g) (g1:b1≠g) (hg:w.heap.size<=g) (u v:Value):
 (((W.setCell ⟨g,0,none⟩ u).setCell ⟨g,1,none⟩ v).cell? ⟨b0,o0,none⟩=some v0/\((W.setCell ⟨g,0,none⟩ u).setCell ⟨g,1,none⟩ v).cell? ⟨b0,o1,none⟩=some v1/\((W.setCell ⟨g,0,none⟩ u).setCell ⟨g,1,none⟩ v).cell? ⟨b0,o2,none⟩=some v2/\((W.setCell ⟨g,0,none⟩ u).setCell ⟨g,1,none⟩ v).cell? ⟨b0,o3,none⟩=some v3/\((W.setCell ⟨g,0,none⟩ u).setCell ⟨g,1,none⟩ v).cell? ⟨b0,o4,none⟩=some v4)/\
 (((W.setCell ⟨g,0,none⟩ u).setCell ⟨g,1,none⟩ v).cell? ⟨b1,o5,none⟩=some v5/\((W.setCell ⟨g,0,none⟩ u).setCell ⟨g,1,none⟩ v).cell? ⟨b1,o6,none⟩=some v6)/\Below w.heap.size w ((W.setCell ⟨g,0,none⟩ u).setCell ⟨g,1,none⟩ v):=by
 obtain⟨⟨h0,h1,h2,h3,h4⟩,⟨h5,h6⟩,hB⟩:=h;have k:∀(b o:Nat)(x:Value),b≠g->W.cell? ⟨b,o,none⟩=some x->((W.setCell ⟨g,0,none⟩ u).setCell ⟨g,1,none⟩ v).cell? ⟨b,o,none⟩=some x:=fun b o x hb h=>by
  rw[World.cell?_setCell_other _ _ _ _ (by intro e;injection e with e;exact hb e.symm),World.cell?_setCell_other _ _ _ _ (by intro e;injection e with e;exact hb e.symm)];exact h
 exact⟨⟨k _ _ _ g0 h0,k _ _ _ g0 h1,k _ _ _ g0 h2,k _ _ _ g0 h3,k _ _ _ g0 h4⟩,⟨k _ _ _ g1 h5,k _ _ _ g1 h6⟩,Ae hB hg u v⟩
end
section
open Go.RowKit Go.Shelf Go.Maps
def seenD (l:List Int):DataW Unit:=l.foldl (fun D x=>D.put (.int .i64 x) (.lit (.bool true))) (.map [])
theorem Pt (l:List Int)(x:Int):seenD (l++[x])=(seenD l).put (.int .i64 x) (.lit (.bool true)):=by simp[seenD]
theorem LV {D:DataW Unit}(h:IsMap D)(k:Lit)(d:DataW Unit):IsMap (D.put k d):=by
 obtain⟨es,rfl⟩:=h;exact⟨_,rfl⟩
theorem Ps (l:List Int)(x:Int):(seenD l).atKey (.int .i64 x) (.lit (.bool false))=.lit (.bool (decide (x∈l))):=by
 suffices h:∀(l:List Int)(D:DataW Unit)(s:List Int),IsMap D->D.atKey (.int .i64 x) (.lit (.bool false))=.lit (.bool (decide (x∈s)))->
  (l.foldl (fun D x=>D.put (.int .i64 x) (.lit (.bool true))) D).atKey (.int .i64 x) (.lit (.bool false))=.lit (.bool (decide (x∈s++l))) by
  have:=h l (.map []) [] isMap_empty (by simp[DataW.atKey]);unfold seenD;simpa using this
 intro l
 induction l with
 |nil=>intro D s _ h;simpa using h
 |cons a l ih=>
  intro D s hD h;have:=ih (D.put (.int .i64 a) (.lit (.bool true))) (s++[a]) (LV hD _ _) (by
   by_cases e:x=a
   · subst e;rw[atKey_put_same hD (by simp[WideAt.IsKeyLit])];simp
   · rw[atKey_put_other (by intro h;injection h with _ h;exact e h),h];simp[e])
  simpa using this
def Seen (P:Program)(ti tb:TypeId)(W:World)(b n:Nat)(l:List Int):Prop:=W.ownsMap (H:=Unit) P ti (plainElem P tb) b n (seenD l)
section
variable {P:Program} {ti tb tm:TypeId} {W W':World} {b n:Nat} {l:List Int}
theorem Seen.look (h:Seen P ti tb W b n l)(hi:P.underlying ti=some (.int .i64))(hb:P.underlying tb=some .bool)(hm:P.underlying tm=some (.map ti tb))(hz:(zeroValue tb).run P W=.ok (.bool false) W)
 {x:Int} (hx:(Lit.int .i64 x).wf=true):(Instr.lookup tm (.map (some b)) (.int .i64 x) false).run P W=.ok (.bool (decide (x∈l))) W:=by
 obtain⟨v,ps,hrun,hv⟩:=World.ownsMap.lookup h (int_keyed hi) hm hz (plainElem_bool (H:=Unit) hb false) (keyOf_int_mk hi hx);rw[hrun];have e:v=.bool (decide (x∈l)):=by
  have a0:=Ps l x;unfold plainElem at hv;rw[hb]at hv;cases v with
  |bool c=>
   simp only[Option.some.injEq,Prod.mk.injEq]at hv;have:=hv.1;rw[a0]at this;injection this with this
   injection this with this
   rw[this]
  |_=>simp at hv
 rw[e]
theorem Seen.at_ (h:Seen P ti tb W b n l)(hk:W'.heap[b]? =W.heap[b]?):Seen P ti tb W' b n l:=by
 obtain⟨es,c,hb,r⟩:=h;exact⟨es,c,hk.trans hb,r⟩
end
end
section
open Go
section
variable {P:Program} {ops:Array Oper} {Q:Exit->Act->World->Prop} {md:Region.Mode} {S:World->Prop} {late:Nat->Bool}
def wpLate (P:Program)(md:Region.Mode)(ops:Array Oper)(Q:Exit->Act->World->Prop)(S:World->Prop)(late:Nat->Bool):Nat->Array Bool->Act->World->Prop
 |0,listed,a,w=>Region.ready md ops listed=[]/\Q .normal a w
 |fuel+1,listed,a,w=>
  (Region.ready md ops listed=[]->Q .normal a w)/\
  ∀i∈Region.ready md ops listed,wpOp P ops Q i (fun a' w'=>(late i=false->S w->S w')/\wpLate P md ops Q S late fuel (listed.setIfInBounds i true) a' w') a w
theorem CS:∀(fuel:Nat)(listed:Array Bool)(a:Act)(w:World),wpLate P md ops Q S late fuel listed a w->wpAny P md ops Q fuel listed a w
 |0,_,_,_,h=>h
 |fuel+1,_,_,_,h=>⟨h.1,fun i hi=>wpOp_mono (fun a' w' h'=>CS fuel _ a' w' h'.2) (h.2 i hi)⟩
def waitFor (md:Region.Mode)(ops:Array Oper)(late:Nat->Bool)(i:Nat):Bool:=
 (List.range ops.size).all fun j=>!late j||match ops[j]? with
  |some oj=>oj.after.any fun e=>Region.binds md e&&e.on==i
  |none=>true
theorem QP {i:Nat}(h:waitFor md ops late i=true){j:Nat}{oj:Oper}(hj:ops[j]? =some oj)(hno:∀e∈oj.after,Region.binds md e=true->e.on≠i):late j=false:=by
 simp only[waitFor,List.all_eq_true,List.mem_range]at h;have h1:=h j (Array.getElem?_eq_some_iff.1 hj).1;simp only[hj,Bool.or_eq_true,Bool.not_eq_true']at h1
 rcases h1 with h1|h1
 · exact h1
 · obtain⟨e,he,hb⟩:=Array.any_eq_true'.1 h1;simp only[Bool.and_eq_true,beq_iff_eq]at hb;exact absurd hb.2 (hno e he hb.1)
theorem QU {i:Nat}{oi:Oper}{v:Value}(hi:ops[i]? =some oi)(hsel:∀(j:Nat)(o:Oper) cs b,ops[j]? =some o->o.op≠.select cs b)
 (hQ:∀c a w,Q (.panic c) (a.put oi.dst v) w->Q (.panic c) a w) (hlate:waitFor md ops late i=true):
 ∀(fuel:Nat)(listed:Array Bool)(a:Act)(w:World),
  (∀j oj,ops[j]? =some oj->j≠i->listed.getD j true=false->(∀e∈oj.after,Region.binds md e=true->e.on≠i)->oi.apart ops oj=true)->
  i∈Region.ready md ops listed->YieldsIf P ops S oi v a->S w->
  wpLate P md ops Q S late fuel (listed.setIfInBounds i true) (a.put oi.dst v) w->wpLate P md ops Q S late (fuel+1) listed a w:=by
 intro fuel
 induction fuel with
 |zero=>
  intro listed a w _ hr hy hS H;refine⟨fun h=>(by rw[h]at hr;cases hr),fun j hj=>?_⟩;by_cases hji:j=i
  · subst hji;exact hy.wpOp hi hS ⟨fun _ h=>h,H⟩
  · have:=ready_mono hj hji;rw[H.1]at this;cases this
 |succ fuel ih=>
  intro listed a w hfree hr hy hS H;refine⟨fun h=>(by rw[h]at hr;cases hr),fun j hj=>?_⟩;by_cases hji:j=i
  · subst hji;exact hy.wpOp hi hS ⟨fun _ h=>h,H⟩
  · have h1:=H.2 j (ready_mono hj hji);obtain⟨hjun,oj,hoj,hall⟩:=mem_ready.1 hj;have a1:∀e∈oj.after,Region.binds md e=true->e.on≠i:=fun e he hb heq=>by
     have h1:=hall e he hb;have h0:=(mem_ready.1 hr).1;rw[heq]at h1
     rcases Nat.lt_or_ge i listed.size with h'|h'
     · simp[h']at h0 h1;rw[h0]at h1;cases h1
     · simp[Array.getElem?_eq_none h']at h1
    have a2:=QP hlate hoj a1;have h2:=wpOp_putIf hoj (hfree j oj hoj hji hjun a1) (fun cs b=>hsel i oi cs b hi) (fun cs b=>hsel j oj cs b hoj) hQ hy h1;have a0:∀k ok,ops[k]? =some ok->k≠i->(listed.setIfInBounds j true).getD k true=false->
     (∀e∈ok.after,Region.binds md e=true->e.on≠i)->oi.apart ops ok=true:=fun k ok hk hki hun hno=>by
     refine hfree k ok hk hki ?_ hno;by_cases hjk:j=k
     · subst hjk;exact hjun
     · rw[getD_set_ne true hjk]at hun;exact hun
    refine wpOp_mono (fun a' w' h3=>⟨h3.2.1,ih (listed.setIfInBounds j true) a' w' a0 (ready_mono hr (Ne.symm hji)) h3.1 (h3.2.1 a2 hS) ?_⟩) h2;rw[Array.setIfInBounds_comm _ _ hji];exact h3.2.2
theorem Fh {i:Nat}{oi:Oper}{v:Value}(hi:ops[i]? =some oi)(hsel:∀(j:Nat)(o:Oper) cs b,ops[j]? =some o->o.op≠.select cs b)
 (hQ:∀c a w,Q (.panic c) (a.put oi.dst v) w->Q (.panic c) a w):
 ∀(fuel:Nat)(listed:Array Bool)(a:Act)(w:World),
  (∀j oj,ops[j]? =some oj->j≠i->listed.getD j true=false->(∀e∈oj.after,Region.binds md e=true->e.on≠i)->oi.apart ops oj=true)->
  i∈Region.ready md ops listed->YieldsIf P ops (fun _=>True) oi v a->
  wpLate P md ops Q S late fuel (listed.setIfInBounds i true) (a.put oi.dst v) w->wpLate P md ops Q S late (fuel+1) listed a w:=by
 intro fuel
 induction fuel with
 |zero=>
  intro listed a w _ hr hy H;refine⟨fun h=>(by rw[h]at hr;cases hr),fun j hj=>?_⟩;by_cases hji:j=i
  · subst hji;exact hy.wpOp hi trivial ⟨fun _ h=>h,H⟩
  · have:=ready_mono hj hji;rw[H.1]at this;cases this
 |succ fuel ih=>
  intro listed a w hfree hr hy H;refine⟨fun h=>(by rw[h]at hr;cases hr),fun j hj=>?_⟩;by_cases hji:j=i
  · subst hji;exact hy.wpOp hi trivial ⟨fun _ h=>h,H⟩
  · have h1:=H.2 j (ready_mono hj hji);obtain⟨hjun,oj,hoj,hall⟩:=mem_ready.1 hj;have a1:∀e∈oj.after,Region.binds md e=true->e.on≠i:=fun e he hb heq=>by
     have h1:=hall e he hb;have h0:=(mem_ready.1 hr).1;rw[heq]at h1
     rcases Nat.lt_or_ge i listed.size with h'|h'
     · simp[h']at h0 h1;rw[h0]at h1;cases h1
     · simp[Array.getElem?_eq_none h']at h1
    have h2:=wpOp_putIf hoj (hfree j oj hoj hji hjun a1) (fun cs b=>hsel i oi cs b hi) (fun cs b=>hsel j oj cs b hoj) hQ hy h1;have a0:∀k ok,ops[k]? =some ok->k≠i->(listed.setIfInBounds j true).getD k true=false->
     (∀e∈ok.after,Region.binds md e=true->e.on≠i)->oi.apart ops ok=true:=fun k ok hk hki hun hno=>by
     refine hfree k ok hk hki ?_ hno;by_cases hjk:j=k
     · subst hjk;exact hjun
     · rw[getD_set_ne true hjk]at hun;exact hun
    refine wpOp_mono (fun a' w' h3=>⟨h3.2.1,ih (listed.setIfInBounds j true) a' w' a0 (ready_mono hr (Ne.symm hji)) h3.1 ?_⟩) h2;rw[Array.setIfInBounds_comm _ _ hji];exact h3.2.2
theorem QV {i:Nat}{oi:Oper}{v:Value}{d:Option Tmp}{fuel:Nat}{listed:Array Bool}{a:Act}{w:World}(hi:ops[i]? =some oi)(hd:oi.dst=d)
 (hs:Region.noSelect ops=true) (hf:Region.free md ops listed i=true) (hr:(Region.ready md ops listed).contains i=true)
 (hlate:waitFor md ops late i=true)
 (hQ:∀c a w,Q (.panic c) (a.put d v) w->Q (.panic c) a w) (hg:oi.guard=none) (hy:∀w,S w->(execOp a.eval oi).run P w=.ok (.value v) w) (hS:S w)
 (h:wpLate P md ops Q S late fuel (listed.setIfInBounds i true) (a.put d v) w):wpLate P md ops Q S late (fuel+1) listed a w:=
 by
 subst hd;exact QU hi (Region.noSelect_spec hs) hQ hlate fuel listed a w (Region.free_spec hi hf) (by simpa using hr) (.inl ⟨by simp[Region.wanted,hg],hy⟩) hS h
theorem QW {i:Nat}{oi:Oper}{v:Value}{d:Option Tmp}{fuel:Nat}{listed:Array Bool}{a:Act}{w:World}(hi:ops[i]? =some oi)(hd:oi.dst=d)
 (hs:Region.noSelect ops=true) (hf:Region.free md ops listed i=true) (hr:(Region.ready md ops listed).contains i=true)
 (hQ:∀c a w,Q (.panic c) (a.put d v) w->Q (.panic c) a w) (hg:oi.guard=none) (hy:∀w,(execOp a.eval oi).run P w=.ok (.value v) w)
 (h:wpLate P md ops Q S late fuel (listed.setIfInBounds i true) (a.put d v) w):wpLate P md ops Q S late (fuel+1) listed a w:=
 by
 subst hd;exact Fh hi (Region.noSelect_spec hs) hQ fuel listed a w (Region.free_spec hi hf) (by simpa using hr) (.inl ⟨by simp[Region.wanted,hg],fun w _=>hy w⟩) h
theorem Ak {i:Nat}{o:Oper}{fuel:Nat}{listed:Array Bool}{a:Act}{w₀:World}(hr:Region.ready md ops listed=[i])(ho:ops[i]? =some o)(hg:o.guard=none)
 (h:∀K':Act->World->Prop,(∀a w,(late i=false->S w₀->S w)->wpLate P md ops Q S late fuel (listed.setIfInBounds i true) a w->K' a w)->o.wp P a w₀ K' Q):wpLate P md ops Q S late (fuel+1) listed a w₀:=
 ⟨fun h0=>(by rw[hr]at h0;cases h0),fun j hj=>by
  rw[hr]at hj;rw[List.mem_singleton.1 hj];refine wpOp_step ho fun K' hK=>?_
  rw[if_pos (by simp[Region.wanted,hg])];exact h K' fun a w h1 h2=>hK a w ⟨h1,h2⟩⟩
theorem Yt (i:Nat)(d:Tmp)(v:Value){op:Op}{ty:TypeId}{ps:String}{af:Array Edge}{fuel:Nat}{listed:Array Bool}{a:Act}{w:World}(hi:ops[i]? =some ⟨some d,op,ty,ps,af,none⟩)
 (hk:(Region.noSelect ops&&Region.free md ops listed i&&(Region.ready md ops listed).contains i)=true) (hQ:∀c a w,Q (.panic c) (a.put (some d) v) w->Q (.panic c) a w) (hy:∀w,(execOp a.eval ⟨some d,op,ty,ps,af,none⟩).run P w=.ok (.value v) w)
 (h:wpLate P md ops Q S late fuel (listed.setIfInBounds i true) (a.put (some d) v) w):wpLate P md ops Q S late (fuel+1) listed a w:=by
 simp only[Bool.and_eq_true]at hk;exact QW hi rfl hk.1.1 hk.1.2 hk.2 hQ rfl hy h
theorem Yu (i:Nat)(d:Option Tmp)(v:Value){op:Op}{ty:TypeId}{ps:String}{af:Array Edge}{fuel:Nat}{listed:Array Bool}{a:Act}{w:World}(hi:ops[i]? =some ⟨d,op,ty,ps,af,none⟩)
 (hk:(Region.noSelect ops&&Region.free md ops listed i&&(Region.ready md ops listed).contains i&&waitFor md ops late i)=true) (hQ:∀c a w,Q (.panic c) (a.put d v) w->Q (.panic c) a w) (hy:∀w,S w->(execOp a.eval ⟨d,op,ty,ps,af,none⟩).run P w=.ok (.value v) w) (hS:S w)
 (h:wpLate P md ops Q S late fuel (listed.setIfInBounds i true) (a.put d v) w):wpLate P md ops Q S late (fuel+1) listed a w:=by
 simp only[Bool.and_eq_true]at hk;exact QV hi rfl hk.1.1.1 hk.1.1.2 hk.1.2 hk.2 hQ rfl hy hS h
theorem Bq {i k:Nat}{o o':Oper}{fuel:Nat}{listed:Array Bool}{a:Act}{w₀:World}(hr:Region.ready md ops listed=[i,k])(ho:ops[i]? =some o)(hg:o.guard=none)(ho':ops[k]? =some o')(hg':o'.guard=none)
 (h:∀K':Act->World->Prop,(∀a w,(late i=false->S w₀->S w)->wpLate P md ops Q S late fuel (listed.setIfInBounds i true) a w->K' a w)->o.wp P a w₀ K' Q)
 (h':∀K':Act->World->Prop,(∀a w,(late k=false->S w₀->S w)->wpLate P md ops Q S late fuel (listed.setIfInBounds k true) a w->K' a w)->o'.wp P a w₀ K' Q):wpLate P md ops Q S late (fuel+1) listed a w₀:=
 ⟨fun h0=>(by rw[hr]at h0;cases h0),fun j hj=>by
  rw[hr]at hj
  rcases List.mem_cons.1 hj with hj|hj
  · rw[hj];refine wpOp_step ho fun K' hK=>?_
    rw[if_pos (by simp[Region.wanted,hg])];exact h K' fun a w h1 h2=>hK a w ⟨h1,h2⟩
  · rw[List.mem_singleton.1 hj];refine wpOp_step ho' fun K' hK=>?_
    rw[if_pos (by simp[Region.wanted,hg'])];exact h' K' fun a w h1 h2=>hK a w ⟨h1,h2⟩⟩
structure Up (i:Nat) (p:Prop):Prop where
 out:p
theorem up (i:Nat){p:Prop}(h:p):Up i p:=⟨h⟩
theorem A0 (i:Nat){o:Oper}{fuel:Nat}{listed:Array Bool}{a:Act}{w₀:World}(hr:Region.ready md ops listed=[i])(ho:ops[i]? =some o)(hg:o.guard=none)
 (h:∀K':Act->World->Prop,(∀a w,(late i=false->S w₀->S w)->wpLate P md ops Q S late fuel (listed.setIfInBounds i true) a w->K' a w)->Up i (o.wp P a w₀ K' Q)):
 wpLate P md ops Q S late (fuel+1) listed a w₀:=Ak hr ho hg fun K' hK=>(h K' hK).out
theorem Bo (i k:Nat){o o':Oper}{fuel:Nat}{listed:Array Bool}{a:Act}{w₀:World}(hr:Region.ready md ops listed=[i,k])(ho:ops[i]? =some o)(hg:o.guard=none)(ho':ops[k]? =some o')(hg':o'.guard=none)
 (h:∀K':Act->World->Prop,(∀a w,(late i=false->S w₀->S w)->wpLate P md ops Q S late fuel (listed.setIfInBounds i true) a w->K' a w)->Up i (o.wp P a w₀ K' Q))
 (h':∀K':Act->World->Prop,(∀a w,(late k=false->S w₀->S w)->wpLate P md ops Q S late fuel (listed.setIfInBounds k true) a w->K' a w)->Up k (o'.wp P a w₀ K' Q)):
 wpLate P md ops Q S late (fuel+1) listed a w₀:=Bq hr ho hg ho' hg' (fun K' hK=>(h K' hK).out) fun K' hK=>(h' K' hK).out
theorem AD {listed:Array Bool}{a:Act}{w:World}(hr:Region.ready md ops listed=[])(h:Q .normal a w):∀fuel,wpLate P md ops Q S late fuel listed a w
 |0=>⟨hr,h⟩
 |_+1=>⟨fun _=>h,by rw[hr];simp⟩
theorem AV {id:Nat}{a:Act}{w:World}(hm:P.follows .mixedOrders=true)
 (h:wpLate P .any ops Q S late ops.size (Array.replicate ops.size false) a w.drew):(Code.region id ops true).wp P Q a w:=
 wp_region_any hm (CS _ _ _ _ h)
theorem AJ {o:Oper}{a:Act}{w w':World}{v:Value}{K:Act->World->Prop}(hr:(execOp a.eval o).run P w=.ok (.value v) w')(h:K (a.put o.dst v) w'):o.wp P a w K Q:=by
 simp only[Oper.wp,hr,Oper.upon];exact h
theorem Ay {o:Oper}{a:Act}{w w':World}{K:Act->World->Prop}(hr:(execOp a.eval o).run P w=.ok .skip w')(h:K (a.put o.dst undef) w'):o.wp P a w K Q:=by
 simp only[Oper.wp,hr,Oper.upon];exact h
theorem Yq {o:Oper}{a:Act}{w w':World}{K:Act->World->Prop}{g:Nat}{t:TypeId}{cs:Array Value}(x:Blk w' g t cs)(hr:(execOp a.eval o).run P w=.ok .skip w')(h:K (a.put o.dst undef) w'):o.wp P a w K Q:=Ay hr h
end
end
section
open Go Go.RowKit Go.Shelf
def noDefer (ops:Array Oper):Bool:=ops.all fun o=>match o.op with
 | .defer _=>false
 |_=>true
theorem MB {ops:Array Oper}(h:noDefer ops=true){i:Nat}{o:Oper}(ho:ops[i]? =some o):∀c,o.op≠.defer c:=by
 intro c e;have:=Array.all_eq_true'.1 h o (Array.mem_of_getElem? ho);rw[e]at this;cases this
theorem QY {n l0:Nat}{P:Program}{ops:Array Oper}{Q:Exit->Act->World->Prop}(hno:noDefer ops=true)(hQ:¬LetsOut Q):
 ∀(l:List Nat)(a:Act)(w:World),wpOps P ops Q l a w->wpOpsIn (Fence.wide.inRound l0) n P ops Q l a w:=by
 intro l
 induction l with
 |nil=>intro a w h;exact h
 |cons i rest ih=>
  intro a w h;unfold wpOps at h;unfold wpOpsIn;cases ho:ops[i]? with
  |none=>rw[ho]at h;exact ih _ _ h
  |some o=>
   rw[ho]at h;simp only at h ⊢;have hd:∀c,o.op≠.defer c:=MB hno ho
   split
   · rename_i hw
     rw[if_pos hw]at h
     rcases h with h|⟨_,h⟩
     · refine⟨fun _ _=>trivial,?_⟩;have e:o.semAt (Fence.wide.inRound l0).round a.eval=execOp a.eval o:=Oper.semAt_some l0 a.eval o hd;rw[e];unfold Oper.wp at h;generalize (execOp a.eval o).run P w=r at*;cases r with
       |ok x w'=>
        cases x with
        |value v=>exact ih _ _ h
        |skip=>exact ih _ _ h
        |defer d=>exact ih _ _ h
        |enter f args=>
         refine⟨fun hs=>(by cases hs),CallsIn.inRound l0 (callsIn_wide.2 (Calls.mono h fun e w'' he=>?_))⟩;cases e with
         |returned v=>exact ih _ _ he
         |panicked c=>exact he
         |outgrown=>exact he
        |row row args=>
         refine⟨fun hs=>(by cases hs),fun c cs _=>?_⟩;obtain⟨v,w'',hv,hs⟩:=h c cs;exact⟨v,w'',ih _ _ hv,stepsIn_wide.2 hs⟩
        |round _ _ _ _ _=>exact h.elim
        |_=>exact h.elim
       |halt x w'=>
        cases x<;>first|exact h|exact h.elim
     · exact absurd h hQ
   · rename_i hw
     rw[if_neg hw]at h;exact⟨fun _ _=>trivial,ih _ _ h⟩
theorem Fg {n l0 id:Nat}{P:Program}{ops:Array Oper}{Q:Exit->Act->World->Prop}{a:Act}{w:World}(hm:P.follows .mixedOrders=true)(hno:noDefer ops=true)(hQ:¬LetsOut Q)
 (h:wpAny P .any ops Q ops.size (Array.replicate ops.size false) a {w with drawn:=w.drawn+1}):(Code.region id ops true).wpIn (Fence.wide.inRound l0) n P Q a w:=
 wpIn_region_draw fun t=>by
  simp only[Region.schedule,hm,Bool.true_or,if_true];exact QY hno hQ _ a _ (wpAny_sound ops.size t _ a _ h)
theorem oper_enter' {P:Program}{Q:Exit->Act->World->Prop}{o:Oper}{a:Act}{w w':World}{f:FuncId}{args:Array Value}{K:Act->World->Prop}(hr:(execOp a.eval o).run P w=.ok (.enter f args) w')
 (h:Calls P f args w' fun e w''=>∃v,e=.returned v/\K (a.put o.dst v) w''):o.wp P a w K Q:=by
 simp only[Oper.wp,hr,Oper.upon];refine h.mono ?_;rintro e w'' ⟨v,rfl,hv⟩;exact hv
theorem MT {W W':World}{row:Option Nat}{B base size n c g:Nat}{e:TypeId}{xs:List Value}(h:W.ownsRow base e size (.slice (some ⟨g,0,none⟩) n c) n xs)(hy:W.grownBy W' row)
 (hr:∀r,row=some r->B<=r/\∃o:Obj,W.heap[r]? =some o/\o.isCells=false):W'.ownsRow base e size (.slice (some ⟨g,0,none⟩) n c) n xs:=by
 refine h.kept hy (.inr fun e'=>?_);obtain⟨_,o,ho,hc⟩:=hr g e'.symm
 rcases h.2 with ⟨h',_⟩|⟨g',cap',cur,h',_,hg,_⟩
 · cases h'
 · injection h' with h'
   injection h' with h'
   injection h' with h'
   subst h';rw[hg]at ho;cases ho
   cases hc
theorem Dv {W W':World}{base size n g c:Nat}{e:TypeId}{xs:List Value}(h:W.ownsRow base e size (.slice (some ⟨g,0,none⟩) n c) n xs)(hb:Below W.heap.size W W'):W'.ownsRow base e size (.slice (some ⟨g,0,none⟩) n c) n xs:=
 h.kept (row:=none) ⟨hb.os,hb.tape,hb.output,hb.size,fun k hk _=>hb.block k hk⟩ (.inr (by simp[Value.ownBlock]))
theorem CF {W:World}{base size n g c k:Nat}{e t:TypeId}{xs:List Value}{cs:Array Value}(h:W.ownsRow base e size (.slice (some ⟨g,0,none⟩) n c) n xs)(hb:Blk W k t cs)(hne:t≠e):k≠g:=by
 rintro rfl
 rcases h.2 with ⟨h',_⟩|⟨g',cap',cur,h',_,hg,_⟩
 · cases h'
 · injection h' with h'
   injection h' with h'
   injection h' with h'
   subst h';rw[show W.heap[k]? =_ from hb]at hg;injection hg with hg
   injection hg with _ hg
   exact hne hg
section
variable {P:Program} {ops:Array Oper} {md:Region.Mode} {C:World->Prop}
def plainOp (o:Oper):Bool:=o.guard.isNone&&match o.op with
 | .move _| .assign _| .extract _ _=>true
 |_=>false
theorem Nh {Q:Exit->Act->World->Prop}{o:Oper}{a:Act}{w:World}{K:Act->World->Prop}(hp:plainOp o=true)
 (h:o.wp P a w K Q\/(o.asks P a w/\LetsOut Q)):∃v,(∀w,(execOp a.eval o).run P w=.ok (.value v) w)/\K (a.put o.dst v) w:=by
 simp only[plainOp,Bool.and_eq_true]at hp;obtain⟨_,hp⟩:=hp;obtain⟨d,op,ty,pos,af,gd⟩:=o;cases op<;>simp only at hp
 all_goals first|(cases hp;done)|skip
 · rename_i x _
   refine⟨a.eval x,fun w=>rfl,?_⟩
   rcases h with h|⟨h,_⟩
   · exact h
   · exact absurd (show noRoomEvent∈(#[]:Array Event)from h.1) (by simp)
 · rename_i x _
   refine⟨a.eval x,fun w=>rfl,?_⟩
   rcases h with h|⟨h,_⟩
   · exact h
   · exact absurd (show noRoomEvent∈(#[]:Array Event)from h.1) (by simp)
 · rename_i x i _
   have key:∀r:Value,a.eval x=r->(∃v,Instr.extract r i=pure v)\/∃m,Instr.extract r i=stuck m:=by
    intro r _;unfold Instr.extract
    split
    · split
      · exact .inl ⟨_,rfl⟩
      · exact .inr ⟨_,rfl⟩
    · exact .inr ⟨_,rfl⟩
   have a0:∀af',execOp a.eval {dst:=d,op:=.extract x i,type:=ty,pos:=pos,after:=af',guard:=gd}=(do pure (.value (<-Instr.extract (a.eval x) i))):=fun _=>rfl
   rcases key _ rfl with ⟨v,hv⟩|⟨m,hm⟩
   · rw[hv]at a0;refine⟨v,fun w=>by rw[a0];rfl,?_⟩
     rcases h with h|⟨h,_⟩
     · unfold Oper.wp at h;rw[a0]at h;exact h
     · have h1:=h.1;rw[a0]at h1;exact absurd (show noRoomEvent∈(#[]:Array Event)from h1) (by simp)
   · rw[hm]at a0
     rcases h with h|⟨h,_⟩
     · unfold Oper.wp at h;rw[a0]at h;exact h.elim
     · have h1:=h.1;rw[a0]at h1;exact absurd (show noRoomEvent∈(#[]:Array Event)from h1) (by simp)
def laterB (md:Region.Mode)(ops:Array Oper)(n:Nat):Bool:=
 (List.range ops.size).all fun t=>decide (t<=n)||(List.range t).any fun s=>decide (n<=s)&&Region.waitsFor md ops t s
theorem GE {n:Nat}{listed:Array Bool}(hs:Region.sinkB md ops n=true)(hl:laterB md ops n=true)(hn:n<ops.size)(inv:HeadInv md ops n listed){i:Nat}(hi:i<n)(hu:listed.getD i true=false):
 ∀t,n<=t->t∉Region.ready md ops listed:=by
 have a2:∀d i,n-i=d->i<n->listed.getD i true=false->∃o e,ops[n]? =some o/\e∈o.after/\Region.binds md e=true/\listed.getD e.on false=false:=by
  intro d
  induction d using Nat.strongRecOn with
  |_ d ih=>
   intro i hd hin hu;obtain⟨j,hj,hj2⟩:=List.any_eq_true.1 (List.all_eq_true.1 hs i (List.mem_range.2 hin));simp only[Bool.and_eq_true,decide_eq_true_eq]at hj2;have a3:=List.mem_range.1 hj;obtain⟨oj,hoj,e,he,hb,hon⟩:=Region.waitsFor_spec hj2.2;have a0:listed.getD e.on false=false:=by rw[hon];exact getD_both hu
   by_cases hjt:j=n
   · subst hjt;exact⟨oj,e,hoj,he,hb,a0⟩
   · refine ih (n-j) (by omega) j rfl (by omega) ?_;cases hlj:listed.getD j false with
     |false=>exact getD_in (by rw[inv.size];omega) hlj
     |true=>rw[inv.closed j oj hoj hlj e he hb]at a0;cases a0
 intro t ht hr;obtain⟨hut,ot,hot,hall⟩:=mem_ready.1 hr;by_cases htn:t=n
 · subst htn;obtain⟨o,e,ho,he,hb,hf⟩:=a2 _ i rfl hi hu;rw[hot]at ho;injection ho with ho
   subst ho;rw[hall e he hb]at hf;cases hf
 · have a1:t<ops.size:=(Array.getElem?_eq_some_iff.1 hot).1;have h1:=List.all_eq_true.1 hl t (List.mem_range.2 a1);simp only[Bool.or_eq_true,decide_eq_true_eq]at h1
   rcases h1 with h1|h1
   · omega
   · obtain⟨s,hs1,hs2⟩:=List.any_eq_true.1 h1;simp only[Bool.and_eq_true,decide_eq_true_eq]at hs2;have a4:=List.mem_range.1 hs1;obtain⟨o',ho',e,he,hb,hon⟩:=Region.waitsFor_spec hs2.2;rw[hot]at ho';injection ho' with ho'
     subst ho';have h2:=hall e he hb;rw[hon,getD_both (inv.tail s hs2.1 (by omega))]at h2;cases h2
def headAny (P:Program)(md:Region.Mode)(ops:Array Oper)(C:World->Prop)(n:Nat)(L:Array Bool->Act->Prop):Nat->Array Bool->Act->Prop
 |0,listed,a=>L listed a
 |f+1,listed,a=>Region.ready md ops listed≠[]/\∀i∈Region.ready md ops listed,i<n/\qOp P ops C i (headAny P md ops C n L f (listed.setIfInBounds i true)) a
theorem Jb {n g:Nat}{L:Array Bool->Act->Prop}{Q:Exit->Act->World->Prop}(hL:∀listed a w,C w->L listed a->wpAny P md ops Q g listed a w):
 ∀(f:Nat)(listed:Array Bool)(a:Act)(w:World),C w->headAny P md ops C n L f listed a->wpAny P md ops Q (f+g) listed a w
 |0,_,_,w,hw,h=>by rw[Nat.zero_add];exact hL _ _ w hw h
 |f+1,_,_,w,hw,h=>by
  rw[Nat.add_right_comm];exact⟨fun h0=>absurd h0 h.1,fun i hi=>wpOp_of_qOp hw (fun a' w' hw' h'=>Jb hL f _ a' w' hw' h') (h.2 i hi).2⟩
theorem LH {n i:Nat}{oi:Oper}{v:Value}{L:Array Bool->Act->Prop}(hi:ops[i]? =some oi)(hsel:Region.noSelect ops=true)
 (hs:Region.sinkB md ops n=true) (hl:laterB md ops n=true) (hn:n<ops.size) (hin:i<n) (hL:∀listed a,L listed a->∀j∈Region.ready md ops listed,n<=j):
 ∀(f:Nat)(listed:Array Bool)(a:Act),HeadInv md ops n listed->
  (∀j oj,ops[j]? =some oj->j≠i->listed.getD j true=false->(∀e∈oj.after,Region.binds md e=true->e.on≠i)->oi.apart ops oj=true)->
  i∈Region.ready md ops listed->YieldsIn P ops C oi v a->headAny P md ops C n L f (listed.setIfInBounds i true) (a.put oi.dst v)->headAny P md ops C n L (f+1) listed a:=by
 intro f
 induction f with
 |zero=>
  intro listed a inv _ hr hy H;refine⟨List.ne_nil_of_mem hr,fun j hj=>?_⟩;have a0:j<n:=Nat.lt_of_not_le fun h=>GE hs hl hn inv hin (mem_ready.1 hr).1 j h hj
  by_cases hji:j=i
  · subst hji;exact⟨a0,hy.qOp hi H⟩
  · have:=hL _ _ H j (ready_mono hj hji);omega
 |succ f ih=>
  intro listed a inv hfree hr hy H;refine⟨List.ne_nil_of_mem hr,fun j hj=>?_⟩;have a0:j<n:=Nat.lt_of_not_le fun h=>GE hs hl hn inv hin (mem_ready.1 hr).1 j h hj
  refine⟨a0,?_⟩;by_cases hji:j=i
  · subst hji;exact hy.qOp hi H
  obtain⟨hju,oj,hoj,hall⟩:=mem_ready.1 hj;have a1:∀e∈oj.after,Region.binds md e=true->e.on≠i:=fun e he hb heq=>by
   have h1:=hall e he hb;rw[heq,getD_both (mem_ready.1 hr).1]at h1;cases h1
  have h2:=qOp_put hoj (hfree j oj hoj hji hju a1) (fun cs b=>Region.noSelect_spec hsel i oi cs b hi) (fun cs b=>Region.noSelect_spec hsel j oj cs b hoj) hy (H.2 j (ready_mono hj hji)).2;refine qOp_mono (fun a' h3=>ih _ a' (inv.set hj a0) (fun k ok hk hki hun hno'=>hfree k ok hk hki ?_ hno') (ready_mono hr (Ne.symm hji)) h3.1 (by rw[Array.setIfInBounds_comm _ _ hji];exact h3.2)) h2;by_cases hjk:j=k
  · subst hjk;exact hju
  · rw[getD_set_ne true hjk]at hun;exact hun
def tailSeq (md:Region.Mode)(ops:Array Oper):Nat->Nat->Array Bool->Bool
 |0,_,listed=>(Region.ready md ops listed).isEmpty
 |g+1,k,listed=>(decide (Region.ready md ops listed=[k])||((match ops[k]? with|some o=>plainOp o|none=>false)&&Region.free md ops listed k&&(Region.ready md ops listed).contains k))&&tailSeq md ops g (k+1) (listed.setIfInBounds k true)
theorem Qn:∀{g k:Nat}{listed:Array Bool},listed.getD k true=listed.getD k true->tailSeq md ops g k listed=true->(∀j,j<k->listed.getD j true=true)->∀j∈Region.ready md ops listed,k<=j:=by
 intro g k listed _ _ hd j hj
 rcases Nat.lt_or_ge j k with h|h
 · have:=(mem_ready.1 hj).1;rw[hd j h]at this;cases this
 · exact h
theorem Ff {Q:Exit->Act->World->Prop}(hsel:Region.noSelect ops=true)(hQ:∀c a w d v,Q (.panic c) (Act.put a d v) w->Q (.panic c) a w):
 ∀(l:List Oper)(k:Nat)(listed:Array Bool)(a:Act)(w:World),(∀j,l[j]? =ops[k+j]?)->tailSeq md ops l.length k listed=true->wpList P ops Q l a w->wpAny P md ops Q l.length listed a w
 |[],_,_,_,_,_,hB,h=>⟨by simpa[tailSeq]using hB,h⟩
 |o::l,k,listed,a,w,hl,hB,h=>by
  have h0:ops[k]? =some o:=by simpa using(hl 0).symm
  have a1:∀j,l[j]? =ops[k+1+j]? :=fun j=>by have:=hl (j+1);simpa[Nat.add_assoc,Nat.add_comm 1 j]using this
  simp only[List.length_cons,tailSeq,Bool.and_eq_true,Bool.or_eq_true,decide_eq_true_eq,h0]at hB;obtain⟨hB1,hB2⟩:=hB
  rcases hB1 with hr|⟨⟨hp,hf⟩,hr⟩
  · refine⟨fun h1=>(by rw[hr]at h1;cases h1),fun i hi=>?_⟩;rw[hr]at hi;rw[List.mem_singleton.1 hi];have hw:wpOp P ops Q k (wpList P ops Q l) a w:=by unfold wpOp;simp only[h0];exact h
    exact wpOp_mono (fun a' w' h'=>Ff hsel hQ l (k+1) _ a' w' a1 hB2 h') hw
  · have a0:Region.wanted o (yielded ops a.tmps)=true:=by
     have:o.guard=none:=by
      simp only[plainOp,Bool.and_eq_true,Option.isNone_iff_eq_none]at hp;exact hp.1
     simp[Region.wanted,this]
    have h1:o.wp P a w (wpList P ops Q l) Q\/(o.asks P a w/\LetsOut Q):=by
     have h2:if Region.wanted o (yielded ops a.tmps)then o.wp P a w (wpList P ops Q l) Q\/(o.asks P a w/\LetsOut Q)else wpList P ops Q l (a.put o.dst undef) w:=h
     rwa [if_pos a0]at h2
    obtain⟨v,hv,hK⟩:=Nh hp h1;exact wpAny_take h0 hsel hf hr (fun c a w=>hQ c a w _ _) (.inl ⟨a0,hv⟩) (Ff hsel hQ l (k+1) _ _ w a1 hB2 hK)
def headLex (md:Region.Mode)(ops:Array Oper)(g:Nat):Nat->Nat->Array Bool->Bool
 |0,k,listed=>tailSeq md ops g k listed&&(List.range k).all fun j=>listed.getD j true
 |f+1,k,listed=>(Region.ready md ops listed).contains k&&Region.free md ops listed k&&headLex md ops g f (k+1) (listed.setIfInBounds k true)
theorem Gv {n g:Nat}{L:Act->Prop}(hsel:Region.noSelect ops=true)(hs:Region.sinkB md ops n=true)(hl:laterB md ops n=true)(hn:n<ops.size):
 ∀(l:List Oper)(k:Nat)(listed:Array Bool)(a:Act),(∀j,j<l.length->l[j]? =ops[k+j]?)->k+l.length=n->HeadInv md ops n listed->headLex md ops g l.length k listed=true->
  wpQuiet P ops C L l a->headAny P md ops C n (fun listed' a'=>(tailSeq md ops g n listed'=true/\∀j,j<n->listed'.getD j true=true)/\L a') l.length listed a
 |[],k,listed,a,_,hk,_,hB,h=>by
  obtain rfl:k=n:=by simpa using hk
  simp only[List.length_nil,headLex,Bool.and_eq_true,List.all_eq_true,List.mem_range]at hB;exact⟨hB,h⟩
 |o::l,k,listed,a,hlj,hk,inv,hB,h=>by
  have h0:ops[k]? =some o:=by simpa using(hlj 0 (by simp)).symm
  simp only[List.length_cons,headLex,Bool.and_eq_true]at hB;obtain⟨⟨hr,hf⟩,hB'⟩:=hB;have a0:k<n:=by simp only[List.length_cons]at hk;omega
  have a1:k∈Region.ready md ops listed:=by simpa using hr
  have hq:qOp P ops C k (wpQuiet P ops C L l) a:=by unfold qOp;simp only[h0];exact h
  obtain⟨v,hy,hK⟩:=yieldsIn_of_qOp h0 hq;exact LH h0 hsel hs hl hn a0 (fun listed' a' hL=>Qn rfl hL.1.1 hL.1.2) l.length listed a inv (Region.free_spec h0 hf) a1 hy
   (Gv hsel hs hl hn l (k+1) _ _ (fun j hj=>by have:=hlj (j+1) (by simp;omega);simpa[Nat.add_assoc,Nat.add_comm 1 j]using this) (by simp only[List.length_cons]at hk;omega) (inv.set a1 a0) hB' hK)
def qtailB (md:Region.Mode)(ops:Array Oper)(n:Nat):Bool:=
 Region.noSelect ops&&decide (n<ops.size)&&Region.sinkB md ops n&&laterB md ops n&&headLex md ops (ops.size-n) n 0 (Array.replicate ops.size false)
theorem Q4 {id:Nat}{Q:Exit->Act->World->Prop}{a:Act}{w:World}{l:List Oper}(n:Nat)(hm:P.follows .mixedOrders=true)(hB:qtailB .any l.toArray n=true)(hQ:∀c a w d v,Q (.panic c) (Act.put a d v) w->Q (.panic c) a w)
 (hC:C {w with drawn:=w.drawn+1}) (h:wpQuiet P l.toArray C (fun a'=>∀w',C w'->wpList P l.toArray Q (l.drop n) a' w') (l.take n) a):(Code.region id l.toArray true).wp P Q a w:=by
 simp only[qtailB,Bool.and_eq_true,decide_eq_true_eq]at hB;obtain⟨⟨⟨⟨hsel,hn⟩,hs⟩,hl⟩,hlex⟩:=hB;have a4:n<l.length:=by simpa using hn
 have a0:(l.take n).length=n:=by simp;omega
 have a2:(l.drop n).length=l.toArray.size-n:=by simp
 have a1:HeadInv .any l.toArray n (Array.replicate l.toArray.size false):=
  ⟨by simp,fun j oj _ hl=>(by rw[getD_replicate_false]at hl;cases hl),fun t _ ht=>getD_in (by simpa using ht) (getD_replicate_false _ _)⟩
 have H:=Gv (md:=.any) (g:=l.toArray.size-n) hsel hs hl hn (l.take n) 0 _ a (fun j hj=>by
  have a3:j<n:=by rw[a0]at hj;exact hj
  simp[a3]) (by simpa using a0) a1 (by rw[a0];exact hlex) h
 refine wp_region_any hm ?_;have:=Jb (Q:=Q) (g:=l.toArray.size-n) (fun listed a' w' hw' hL=>by
  have:=Ff (md:=.any) (Q:=Q) hsel hQ (l.drop n) n listed a' w' (fun j=>by simp[List.getElem?_drop]) (by rw[a2];exact hL.1.1) (hL.2 w' hw')
  rwa [a2]at this) _ _ _ _ hC H
 rw[a0,show n+(l.toArray.size-n)=l.toArray.size by omega]at this;exact this
theorem QZ {id:Nat}{Q:Exit->Act->World->Prop}{a:Act}{w:World}{l:List Oper}(n:Nat)(hm:P.follows .mixedOrders=true)(hB:qtailB .any l.toArray n=true)(hQ:∀c a w d v,Q (.panic c) (Act.put a d v) w->Q (.panic c) a w)
 (h:wpQuiet P l.toArray (fun w'=>∃p:Ext w,w'=p.world) (fun a'=>∀w',(∃p:Ext w,w'=p.world)->wpList P l.toArray Q (l.drop n) a' w') (l.take n) a):(Code.region id l.toArray true).wp P Q a w:=
 Q4 (C:=fun w'=>∃p:Ext w,w'=p.world) n hm hB hQ ⟨⟨w.drew,(Below.refl _ _).drew⟩,rfl⟩ h
end
theorem Q3 {P:Program}{id:Nat}{K:Act->World->Prop}{Q:Exit->Act->World->Prop}{a:Act}{w:World}{l:List Oper}(n:Nat)(hm:P.follows .mixedOrders=true)(hB:qtailB .any l.toArray n=true)
 (h:wpQuiet P l.toArray (fun w'=>∃p:Ext w,w'=p.world) (fun a'=>∀w',(∃p:Ext w,w'=p.world)->wpList P l.toArray (Exit.then K (fun _ _ _=>False)) (l.drop n) a' w') (l.take n) a):(Code.region id l.toArray true).wp P (Exit.then K Q) a w:=
 Go.wp_mono (QZ n hm hB (by intro c a w d v h;exact h) h) (by intro e a w h;cases e<;>first|exact h|exact h.elim)
end
section
open Go.RowKit Go.Shelf
attribute [local go_sem] Ad Af Ag Ab Ai Ah
theorem BQ (D:Dk)(p q:Pl)(h:D.data.length<=140737488355328)(w:World):
 CR 45 #[dval D p q] w (.int .i64 (D.sz:Nat)):=by
 go_enter Tryz.func45,Tryz.ntmps45
 go_wp2
 go_ret
 exact⟨by simp[Dk.sz],Yz _⟩
theorem Bi (D:Dk)(p q:Pl)(h:D.data.length<=140737488355328)(k:Int)(w:World):
 CR 85 #[dval D p q,.int .i64 k] w (.bool (D.there k)):=by
 by_cases hk:0<=k
 · have hd:decide (0<=k)=true:=by simpa using hk
   go_enter Tryz.func85,Tryz.ntmps85;go_wp2_with (go_at_call 45;refine(BQ D p q h _).mono ?_;rintro e w1 ⟨rfl,hb⟩)
   go_ret
   exact⟨by simp[Dk.there,hd],bt (Yz _) hb⟩
 · have hd:decide (0<=k)=false:=by simpa using hk
   go_enter Tryz.func85,Tryz.ntmps85
   go_wp2
   go_ret
   exact⟨by simp[Dk.there,hd],Yz _⟩
theorem NW (D:Dk)(p q:Pl)(h:D.data.length<=140737488355328)(hc:D.cache.length<=4398046511104)(hbad:D.sz<1\/1024<D.sz\/D.data.length%64≠0\/4096<D.cache.length)(w:World):
 CR 44 #[dval D p q] w (.bool D.fit):=by
 have hf:D.fit=false:=by
  simp only[Dk.fit,Bool.and_eq_false_iff,decide_eq_false_iff_not];omega
 rw[hf];have a0:=Yz (W:=w) (.cells #[.string (bs D.data),.slice p.a D.cache.length p.c,.int .i64 D.fuse,.bool D.off,.slice q.a D.bad.length q.c] 25);by_cases h1:D.sz<1
 · go_enter Tryz.func44,Tryz.ntmps44;go_wp2_with (go_at_call 45;refine(BQ D p q h _).mono ?_;rintro e w1 ⟨rfl,hb⟩)
   go_ret
   exact⟨rfl,bt a0 hb⟩
 · by_cases h2:1024<D.sz
   · go_enter Tryz.func44,Tryz.ntmps44;go_wp2_with (go_at_call 45;refine(BQ D p q h _).mono ?_;rintro e w1 ⟨rfl,hb⟩)
     go_ret
     exact⟨rfl,bt a0 hb⟩
   · by_cases h3:D.data.length%64=0
     · have h4:4096<D.cache.length:=by omega
       have a1:((D.data.length:Int)%64 !=0)=false:=by simp;omega
       have H3:=hid h3;clear h3
       go_enter Tryz.func44,Tryz.ntmps44;go_wp2_with (go_at_call 45;refine(BQ D p q h _).mono ?_;rintro e w1 ⟨rfl,hb⟩;obtain⟨k0,k1,k2,k3,k4⟩:=blk5 (BZ _ _ hb))
       go_ret
       exact⟨rfl,bt a0 hb⟩
     · have a1:((D.data.length:Int)%64 !=0)=true:=by simp;omega
       clear h3;go_enter Tryz.func44,Tryz.ntmps44;go_wp2_with (go_at_call 45;refine(BQ D p q h _).mono ?_;rintro e w1 ⟨rfl,hb⟩;obtain⟨k0,k1,k2,k3,k4⟩:=blk5 (BZ _ _ hb))
       go_ret
       exact⟨rfl,bt a0 hb⟩
theorem NX (D:Dk)(p q:Pl)(w:World)(hD:IsDk w D p q)(h1:1<=D.sz)(h2:D.sz<=1024)(h3:D.data.length%64=0)(h4:D.cache.length<=4096):
 CR 44 #[dval D p q] w (.bool D.fit):=by
 obtain⟨A1,c1⟩:=p;obtain⟨A2,c2⟩:=q;have h:=hD.data;have ab:=hD.bl;have a6:=Yz (W:=w) (.cells #[.string (bs D.data),.slice A1 D.cache.length c1,.int .i64 D.fuse,.bool D.off,.slice A2 D.bad.length c2] 25);have aa:((D.data.length:Int)%64 !=0)=false:=by simp;omega
 have H3:=hid h3;clear h3
 go_enter Tryz.func44,Tryz.ntmps44;go_wp2_with (go_at_call 45;refine(BQ D ⟨A1,c1⟩ ⟨A2,c2⟩ h _).mono ?_;rintro e w1 ⟨rfl,hb⟩;have hbx:=BZ _ _ hb;obtain⟨k0,k1,k2,k3,k4⟩:=blk5 hbx)
 replace hb:=bt a6 hb;clear a6 k0 k1 k2 k3 k4;go_loopw [4] (fun x W=>∃i:Nat,i<=D.cache.length/\x=.int .i64 i/\Hid (∀j (hj:j<D.cache.length),j<i->D.putOk D.cache[j]=true)/\
  Blk W w.heap.size 25 #[.string (bs D.data),.slice A1 D.cache.length c1,.int .i64 D.fuse,.bool D.off,.slice A2 D.bad.length c2]/\Below w.heap.size w W) (fun x _=>D.cache.length-(intOf x).toNat)
 case atStart=>exact⟨0,Nat.zero_le _,rfl,hid (fun j hj h0=>by omega),hbx,hb⟩
 case round=>
  clear hbx hb;obtain⟨i,hi,rfl,hok,hbx,hb⟩:=hrel;obtain⟨k0,k1,k2,k3,k4⟩:=blk5 hbx;by_cases hlt:i<D.cache.length
  · obtain⟨pb,po,hpa,hcell⟩:=(hD.below hb).cache.put hlt;simp only at hpa;subst hpa;obtain⟨d0,d1⟩:=hcell i hlt;have a1:=hid hcell;clear hcell
    have a8:=hD.ats _ (List.getElem_mem hlt);have ad:=hD.strs _ (List.getElem_mem hlt);have a0:=Bi D ⟨some ⟨pb,po,none⟩,c1⟩ ⟨A2,c2⟩ h D.cache[i].1;have K0:=fun e:Ext wr=>e.cell k0
    have K1:=fun e:Ext wr=>e.cell k1
    have K2:=fun e:Ext wr=>e.cell k2
    have K3:=fun e:Ext wr=>e.cell k3
    have K4:=fun e:Ext wr=>e.cell k4
    have C0:=fun e:Ext wr=>e.cell d0
    have C1:=fun e:Ext wr=>e.cell d1
    rcases Bool.eq_false_or_eq_true (D.there D.cache[i].1)with hth|hth
    · rw[hth]at a0;by_cases hl:D.cache[i].2.length=64
      · have a5:((D.cache[i].2.length:Int) !=64)=false:=by simp;omega
        have a3:=hid (show D.putOk D.cache[i]=true by simp[Dk.putOk,hth,hl]);clear hth hl;go_wp2_with fail
        refine Az mixed (by kernel_rfl) ?_
        repeat (go_big_quiet_step ((go_at_call 85;with_reducible exact An (a0 _))))
        refine wpQuiet_nil ?_;rintro _ ⟨⟨w2,hb2⟩,rfl⟩;go_wp2_with fail
        go_roundw
        case rel=>exact⟨i+1,by omega,by go_num,hid (fun j hj hji=>by
         rcases Nat.lt_or_ge j i with h'|h'
         · exact hok.out j hj h'
         · obtain rfl:j=i:=by omega
           exact a3.out),hbx.bl hb2,bt hb hb2⟩
        case measure=>simp[intOf];omega
      · have a5:((D.cache[i].2.length:Int) !=64)=true:=by simp;omega
        have a2:=hid (Dk.fit_no_put hlt (show D.putOk D.cache[i]=false by simp[Dk.putOk,hth,hl]));clear hth hl;go_wp2_with fail
        refine Az mixed (by kernel_rfl) ?_
        repeat (go_big_quiet_step ((go_at_call 85;with_reducible exact An (a0 _))))
        refine wpQuiet_nil ?_;rintro _ ⟨⟨w2,hb2⟩,rfl⟩;go_wp2_with fail
        go_ret
        exact⟨by rw[a2.out];rfl,bt hb hb2⟩
    · rw[hth]at a0;have a2:=hid (Dk.fit_no_put hlt (show D.putOk D.cache[i]=false by simp[Dk.putOk,hth]));clear hth;go_wp2_with fail
      refine Az mixed (by kernel_rfl) ?_
      repeat (go_big_quiet_step ((go_at_call 85;with_reducible exact An (a0 _))))
      refine wpQuiet_nil ?_;rintro _ ⟨⟨w2,hb2⟩,rfl⟩;go_wp2_with fail
      go_ret
      exact⟨by rw[a2.out];rfl,bt hb hb2⟩
  · have a4:=hid (show∀j (hj:j<D.cache.length),D.putOk D.cache[j]=true from fun j hj=>hok.out j hj (by omega));clear hok;go_wp2_with fail
    go_loopw [5] (fun x W=>∃i:Nat,i<=D.bad.length/\x=.int .i64 i/\Hid (∀j (hj:j<D.bad.length),j<i->D.there D.bad[j]=true/\(0<j->D.bad[j-1]<D.bad[j]))/\
     Blk W w.heap.size 25 #[.string (bs D.data),.slice A1 D.cache.length c1,.int .i64 D.fuse,.bool D.off,.slice A2 D.bad.length c2]/\Below w.heap.size w W) (fun x _=>D.bad.length-(intOf x).toNat)
    case atStart=>exact⟨0,Nat.zero_le _,rfl,hid (fun j hj h0=>by omega),hbx,hb⟩
    case round=>
     clear hbx hb k0 k1 k2 k3 k4;obtain⟨k,hk,rfl,hok,hbx,hb⟩:=hrel;obtain⟨k0,k1,k2,k3,k4⟩:=blk5 hbx;by_cases hlt:k<D.bad.length
     · obtain⟨pb,po,hpa,hcell⟩:=(hD.below hb).bad.int hlt;simp only at hpa;subst hpa;have d0:=hcell k hlt;have a1:=hid hcell;clear hcell
       have a8:=hD.bads _ (List.getElem_mem hlt);have a0:=Bi D ⟨A1,c1⟩ ⟨some ⟨pb,po,none⟩,c2⟩ h D.bad[k];have K0:=fun e:Ext wr=>e.cell k0
       have K1:=fun e:Ext wr=>e.cell k1
       have K2:=fun e:Ext wr=>e.cell k2
       have K3:=fun e:Ext wr=>e.cell k3
       have K4:=fun e:Ext wr=>e.cell k4
       have D0:=fun e:Ext wr=>e.cell d0
       rcases Bool.eq_false_or_eq_true (D.there D.bad[k])with hth|hth
       · rw[hth]at a0;by_cases h0:0<k
         · have a7:decide ((0:Int)<k)=true:=by simp;omega
           have ac:(0:Int)<=(k:Int)-1:=by omega
           have e0:=a1.out (k-1) (by omega);have a9:=hD.bads _ (List.getElem_mem (show k-1<D.bad.length by omega));have E0:=fun e:Ext wr=>e.cell e0
           by_cases hl:D.bad[k]<=D.bad[k-1]
           · have a5:decide (D.bad[k]<=D.bad[k-1])=true:=by simpa using hl
             have a2:=hid (Dk.fit_no_incr hlt h0 hl);clear hth hl;go_wp2_with fail
             refine Az mixed (by kernel_rfl) ?_
             repeat (go_big_quiet_step ((go_at_call 85;with_reducible exact An (a0 _))))
             refine wpQuiet_nil ?_;rintro _ ⟨⟨w2,hb2⟩,rfl⟩;go_wp2_with fail
             go_ret
             exact⟨by rw[a2.out];rfl,bt hb hb2⟩
           · have a5:decide (D.bad[k]<=D.bad[k-1])=false:=by simpa using hl
             have a3:=hid (show D.there D.bad[k]=true/\(0<k->D.bad[k-1]<D.bad[k])from⟨hth,fun _=>by omega⟩);clear hth hl;go_wp2_with fail
             refine Az mixed (by kernel_rfl) ?_
             repeat (go_big_quiet_step ((go_at_call 85;with_reducible exact An (a0 _))))
             refine wpQuiet_nil ?_;rintro _ ⟨⟨w2,hb2⟩,rfl⟩;go_wp2_with fail
             go_roundw
             case rel=>exact⟨k+1,by omega,by go_num,hid (fun j hj hji=>by
              rcases Nat.lt_or_ge j k with h'|h'
              · exact hok.out j hj h'
              · obtain rfl:j=k:=by omega
                exact a3.out),hbx.bl hb2,bt hb hb2⟩
             case measure=>simp[intOf];omega
         · have a7:decide ((0:Int)<k)=false:=by simp;omega
           have a3:=hid (show D.there D.bad[k]=true/\(0<k->D.bad[k-1]<D.bad[k])from⟨hth,fun _=>by omega⟩);clear hth;go_wp2_with fail
           refine Az mixed (by kernel_rfl) ?_
           repeat (go_big_quiet_step ((go_at_call 85;with_reducible exact An (a0 _))))
           refine wpQuiet_nil ?_;rintro _ ⟨⟨w2,hb2⟩,rfl⟩;go_wp2_with fail
           go_roundw
           case rel=>exact⟨k+1,by omega,by go_num,hid (fun j hj hji=>by
            rcases Nat.lt_or_ge j k with h'|h'
            · exact hok.out j hj h'
            · obtain rfl:j=k:=by omega
              exact a3.out),hbx.bl hb2,bt hb hb2⟩
           case measure=>simp[intOf];omega
       · rw[hth]at a0;have a2:=hid (Dk.fit_no_bad hlt hth);clear hth;go_wp2_with fail
         refine Az mixed (by kernel_rfl) ?_
         repeat (go_big_quiet_step ((go_at_call 85;with_reducible exact An (a0 _))))
         refine wpQuiet_nil ?_;rintro _ ⟨⟨w2,hb2⟩,rfl⟩;go_wp2_with fail
         go_ret
         exact⟨by rw[a2.out];rfl,bt hb hb2⟩
     · have hf:D.fit=true:=Dk.fit_yes h1 h2 H3.out h4 (fun j hj=>a4.out j hj) (fun j hj=>(hok.out j hj (by omega)).1) (fun j hj h0=>(hok.out j hj (by omega)).2 h0);have Hf:=hid hf;clear hf
       clear hok;go_wp2_with fail
       go_ret
       exact⟨by rw[Hf.out];rfl,hb⟩
theorem Mz (a b:Int)(s u:List UInt8)(w:World):(binOp .neq 115 (.agg #[.int .i64 a,.string (bs s)]) (.agg #[.int .i64 b,.string (bs u)])).run Tryz.prog w=.ok (.bool (!(decide (a=b)&&decide (s=u)))) w:=by
 have u3:=Tryz.underlying3;have hS:Tryz.prog.underlying 115=some (.struct (Tryz.prog.fieldsOf 115)):=by kernel_rfl
 have hp:Tryz.prog.stoodInHeld 115=false:=by kernel_rfl
 rw[run_neq_struct,show(10000:Nat)=9999+1 from rfl,run_equalIn_agg w 9999 115 _ _ hS hp];simp only[Program.fieldsOf,Tryz.underlying115];go_simp;by_cases h1:a=b<;>by_cases h2:s=u<;>simp[h1,h2]
theorem CM (D:Dk)(p q:Pl)(w:World)(hD:IsDk w D p q)(k:Int):
 CR 101 #[dval D p q,.int .i64 k] w (.bool (decide (k∈D.bad))):=by
 obtain⟨A1,c1⟩:=p;obtain⟨A2,c2⟩:=q;have a3:=hD.bl;have hbx:=apc5 (Blk.new w 25) D A1 c1 A2 c2;have hb:=Yz (W:=w) (.cells #[.string (bs D.data),.slice A1 D.cache.length c1,.int .i64 D.fuse,.bool D.off,.slice A2 D.bad.length c2] 25);go_enter Tryz.func101,Tryz.ntmps101;go_wp2_with fail
 go_loopw [5] (fun x W=>∃i:Nat,i<=D.bad.length/\x=.int .i64 i/\Hid (∀j (hj:j<D.bad.length),j<i->D.bad[j]≠k)/\
  Blk W w.heap.size 25 #[.string (bs D.data),.slice A1 D.cache.length c1,.int .i64 D.fuse,.bool D.off,.slice A2 D.bad.length c2]/\Below w.heap.size w W) (fun x _=>D.bad.length-(intOf x).toNat)
 case atStart=>exact⟨0,Nat.zero_le _,rfl,hid (fun j hj h0=>by omega),hbx,hb⟩
 case round=>
  clear hbx hb;obtain⟨i,hi,rfl,hok,hbx,hb⟩:=hrel;have k0:=blk5 hbx;by_cases hlt:i<D.bad.length
  · obtain⟨pb,po,hpa,hcell⟩:=(hD.below hb).bad.int hlt;simp only at hpa;subst hpa;have d0:=hcell i hlt;have a1:=hid hcell;clear hcell
    by_cases he:D.bad[i]=k
    · have a2:(D.bad[i]==k)=true:=by simpa using he
      have a0:=hid (show decide (k∈D.bad)=true by rw[decide_eq_true_eq,<-he];exact List.getElem_mem hlt);clear he;go_wp2_with fail
      go_ret
      exact⟨by rw[a0.out];rfl,hb⟩
    · have a2:(D.bad[i]==k)=false:=by simpa using he
      have He:=hid he;clear he
      go_wp2_with fail
      go_roundw
      case rel=>exact⟨i+1,by omega,by go_num,hid (fun j hj hji=>by
       rcases Nat.lt_or_ge j i with h'|h'
       · exact hok.out j hj h'
       · obtain rfl:j=i:=by omega
         exact He.out),hbx,hb⟩
      case measure=>simp[intOf];omega
  · have a0:=hid (show decide (k∈D.bad)=false by
     rw[decide_eq_false_iff_not];intro hm;obtain⟨j,hj,he⟩:=List.getElem_of_mem hm;exact hok.out j hj (by omega) he)
    clear hok;go_wp2_with fail
    go_ret
    exact⟨by rw[a0.out];rfl,hb⟩
theorem N8 (D E:Dk)(p q p' q':Pl)(w:World)(hD:IsDk w D p q)(hE:IsDk w E p' q'):
 CR 24 #[dval D p q,dval E p' q'] w (.bool (D.same E)):=by
 obtain⟨A1,c1⟩:=p;obtain⟨A2,c2⟩:=q;obtain⟨B1,d1⟩:=p';obtain⟨B2,d2⟩:=q';have a6:=hD.cl;have a5:=hD.bl;obtain⟨data,cache,fuse,off,bad⟩:=D;obtain⟨data',cache',fuse',off',bad'⟩:=E;simp only at a6 a5;by_cases h1:data=data'
 case neg=>
  · have Hf:=hid (Dk.same_no (D:=⟨data,cache,fuse,off,bad⟩) (E:=⟨data',cache',fuse',off',bad'⟩) (by simp[h1]));have hb:=(Yz (W:=w) (.cells #[.string (bs data),.slice A1 cache.length c1,.int .i64 fuse,.bool off,.slice A2 bad.length c2] 25)).alloc (by simp) (.cells #[.string (bs data'),.slice B1 cache'.length d1,.int .i64 fuse',.bool off',.slice B2 bad'.length d2] 25);have n0:(data==data')=false:=by simpa using h1
    clear h1;go_enter Tryz.func24,Tryz.ntmps24;go_wp2_with fail
    go_ret
    exact⟨by rw[Hf.out];rfl,hb⟩
 subst h1;have hl1:cache.length=cache'.length\/cache.length≠cache'.length:=by omega
 rcases hl1 with h2|h2
 case inr=>
  · have Hf:=hid (Dk.same_no (D:=⟨data,cache,fuse,off,bad⟩) (E:=⟨data,cache',fuse',off',bad'⟩) (by simp[h2]));have hb:=(Yz (W:=w) (.cells #[.string (bs data),.slice A1 cache.length c1,.int .i64 fuse,.bool off,.slice A2 bad.length c2] 25)).alloc (by simp) (.cells #[.string (bs data),.slice B1 cache'.length d1,.int .i64 fuse',.bool off',.slice B2 bad'.length d2] 25);have n0:((cache.length:Int) !=cache'.length)=true:=by simp;omega
    clear h2;go_enter Tryz.func24,Tryz.ntmps24;go_wp2_with fail
    go_ret
    exact⟨by rw[Hf.out];rfl,hb⟩
 have n2:((cache.length:Int) !=cache'.length)=false:=by simp;omega
 have H2:=hid h2;clear h2
 by_cases h3:fuse=fuse'
 case neg=>
  · have Hf:=hid (Dk.same_no (D:=⟨data,cache,fuse,off,bad⟩) (E:=⟨data,cache',fuse',off',bad'⟩) (by simp[h3]));have hb:=(Yz (W:=w) (.cells #[.string (bs data),.slice A1 cache.length c1,.int .i64 fuse,.bool off,.slice A2 bad.length c2] 25)).alloc (by simp) (.cells #[.string (bs data),.slice B1 cache'.length d1,.int .i64 fuse',.bool off',.slice B2 bad'.length d2] 25);have n0:(fuse !=fuse')=true:=by simpa using h3
    clear h3;go_enter Tryz.func24,Tryz.ntmps24;go_wp2_with fail
    go_ret
    exact⟨by rw[Hf.out];rfl,hb⟩
 subst h3;by_cases h4:off=off'
 case neg=>
  · have Hf:=hid (Dk.same_no (D:=⟨data,cache,fuse,off,bad⟩) (E:=⟨data,cache',fuse,off',bad'⟩) (by simp[h4]));have hb:=(Yz (W:=w) (.cells #[.string (bs data),.slice A1 cache.length c1,.int .i64 fuse,.bool off,.slice A2 bad.length c2] 25)).alloc (by simp) (.cells #[.string (bs data),.slice B1 cache'.length d1,.int .i64 fuse,.bool off',.slice B2 bad'.length d2] 25);have n0:(off==off')=false:=by simpa using h4
    clear h4;go_enter Tryz.func24,Tryz.ntmps24;go_wp2_with fail
    go_ret
    exact⟨by rw[Hf.out];rfl,hb⟩
 subst h4;have hl1:bad.length=bad'.length\/bad.length≠bad'.length:=by omega
 rcases hl1 with h5|h5
 case inr=>
  · have Hf:=hid (Dk.same_no (D:=⟨data,cache,fuse,off,bad⟩) (E:=⟨data,cache',fuse,off,bad'⟩) (by simp[h5]));have hb:=(Yz (W:=w) (.cells #[.string (bs data),.slice A1 cache.length c1,.int .i64 fuse,.bool off,.slice A2 bad.length c2] 25)).alloc (by simp) (.cells #[.string (bs data),.slice B1 cache'.length d1,.int .i64 fuse,.bool off,.slice B2 bad'.length d2] 25);have n0:((bad.length:Int) !=bad'.length)=true:=by simp;omega
    clear h5;go_enter Tryz.func24,Tryz.ntmps24;go_wp2_with fail
    go_ret
    exact⟨by rw[Hf.out];rfl,hb⟩
 have n5:((bad.length:Int) !=bad'.length)=false:=by simp;omega
 have H5:=hid h5;clear h5
 have hb:=(Yz (W:=w) (.cells #[.string (bs data),.slice A1 cache.length c1,.int .i64 fuse,.bool off,.slice A2 bad.length c2] 25)).alloc (by simp) (.cells #[.string (bs data),.slice B1 cache'.length d1,.int .i64 fuse,.bool off,.slice B2 bad'.length d2] 25);have hbx:=(Blk.new w 25 #[.string (bs data),.slice A1 cache.length c1,.int .i64 fuse,.bool off,.slice A2 bad.length c2]).alloc (.cells #[.string (bs data),.slice B1 cache'.length d1,.int .i64 fuse,.bool off,.slice B2 bad'.length d2] 25);have hby:=Blk.new (w.alloc (.cells #[.string (bs data),.slice A1 cache.length c1,.int .i64 fuse,.bool off,.slice A2 bad.length c2] 25)) 25 #[.string (bs data),.slice B1 cache'.length d1,.int .i64 fuse,.bool off,.slice B2 bad'.length d2];simp only[Ys]at hby;have a4:=Mz;go_enter Tryz.func24,Tryz.ntmps24;go_wp2_with fail
 go_loopw [5] (fun x W=>∃i:Nat,i<=cache.length/\x=.int .i64 i/\Hid (∀j (hj:j<cache.length)(hj':j<cache'.length),j<i->cache[j]=cache'[j])/\
  (Blk W w.heap.size 25 #[.string (bs data),.slice A1 cache.length c1,.int .i64 fuse,.bool off,.slice A2 bad.length c2]/\Blk W (w.heap.size+1) 25 #[.string (bs data),.slice B1 cache'.length d1,.int .i64 fuse,.bool off,.slice B2 bad'.length d2])/\Below w.heap.size w W) (fun x _=>cache.length-(intOf x).toNat)
 case atStart=>exact⟨0,Nat.zero_le _,rfl,hid (fun j hj hj' h0=>by omega),⟨hbx,hby⟩,hb⟩
 case round=>
  clear hbx hby hb;obtain⟨i,hi,rfl,hok,⟨hbx,hby⟩,hb⟩:=hrel;have k0:=blk5 hbx;have k1:=blk5 hby;have K0:=ext5 hbx;have K1:=ext5 hby;by_cases hlt:i<cache.length
  · have a1:i<cache'.length:=by have:=H2.out;omega
    obtain⟨pb,po,hpa,hcell⟩:=(hD.below hb).cache.put hlt;obtain⟨pb',po',hpa',hcell'⟩:=(hE.below hb).cache.put a1;simp only at hpa hpa';subst hpa;subst hpa';obtain⟨x0,x1⟩:=hcell i hlt;obtain⟨y0,y1⟩:=hcell' i a1;have X0:=fun e:Ext wr=>e.cell x0
    have X1:=fun e:Ext wr=>e.cell x1
    have Y0:=fun e:Ext wr=>e.cell y0
    have Y1:=fun e:Ext wr=>e.cell y1
    clear hcell hcell';by_cases he:cache[i]=cache'[i]
    · have a3:decide (cache[i].1=cache'[i].1)=true:=by simp[he]
      have a7:decide (cache[i].2=cache'[i].2)=true:=by simp[he]
      have He:=hid he;clear he
      go_wp2_with fail
      refine Az mixed (by kernel_rfl) ?_
      repeat (go_big_quiet_step ((fail)))
      refine wpQuiet_nil ?_;rintro w2 ⟨pq_,hpq_⟩;have a0:=pq_.below;rw[<-hpq_]at a0;clear hpq_ pq_;go_wp2_with fail
      go_roundw
      case rel=>exact⟨i+1,by omega,by go_num,hid (fun j hj hj' hji=>by
       rcases Nat.lt_or_ge j i with h'|h'
       · exact hok.out j hj hj' h'
       · obtain rfl:j=i:=by omega
         exact He.out),⟨hbx.bl a0,hby.bl a0⟩,bt hb a0⟩
      case measure=>simp[intOf];omega
    · have He:=hid (Dk.same_no_cache (D:=⟨data,cache,fuse,off,bad⟩) (E:=⟨data,cache',fuse,off,bad'⟩) i hlt a1 he);have a3:(decide (cache[i].1=cache'[i].1)&&decide (cache[i].2=cache'[i].2))=false:=by
       rw[Bool.and_eq_false_iff,decide_eq_false_iff_not,decide_eq_false_iff_not];by_cases h':cache[i].1=cache'[i].1
       · exact .inr fun h''=>he (Prod.ext h' h'')
       · exact .inl h'
      clear he;go_wp2_with fail
      refine Az mixed (by kernel_rfl) ?_
      repeat (go_big_quiet_step ((fail)))
      refine wpQuiet_nil ?_;rintro w2 ⟨pq_,hpq_⟩;have a0:=pq_.below;rw[<-hpq_]at a0;clear hpq_ pq_;go_wp2_with fail
      go_ret
      exact⟨by rw[He.out];rfl,bt hb a0⟩
  · have a2:=hid (show∀j (hj:j<cache.length)(hj':j<cache'.length),cache[j]=cache'[j]from fun j hj hj'=>hok.out j hj hj' (by omega));clear hok K0 K1 a4;go_wp2_with fail
    go_loopw [6] (fun x W=>∃k:Nat,k<=bad.length/\x=.int .i64 k/\Hid (∀j (hj:j<bad.length)(hj':j<bad'.length),j<k->bad[j]=bad'[j])/\
     (Blk W w.heap.size 25 #[.string (bs data),.slice A1 cache.length c1,.int .i64 fuse,.bool off,.slice A2 bad.length c2]/\Blk W (w.heap.size+1) 25 #[.string (bs data),.slice B1 cache'.length d1,.int .i64 fuse,.bool off,.slice B2 bad'.length d2])/\Below w.heap.size w W) (fun x _=>bad.length-(intOf x).toNat)
    case atStart=>exact⟨0,Nat.zero_le _,rfl,hid (fun j hj hj' h0=>by omega),⟨hbx,hby⟩,hb⟩
    case round=>
     clear hbx hby hb k0 k1;obtain⟨k,hk,rfl,hok,⟨hbx,hby⟩,hb⟩:=hrel;have k0:=blk5 hbx;have k1:=blk5 hby;have K0:=ext5 hbx;have K1:=ext5 hby;by_cases hlt:k<bad.length
     · have a1:k<bad'.length:=by have:=H5.out;omega
       obtain⟨pb,po,hpa,hcell⟩:=(hD.below hb).bad.int hlt;obtain⟨pb',po',hpa',hcell'⟩:=(hE.below hb).bad.int a1;simp only at hpa hpa';subst hpa;subst hpa';have x0:=hcell k hlt;have y0:=hcell' k a1;have X0:=fun e:Ext wr=>e.cell x0
       have Y0:=fun e:Ext wr=>e.cell y0
       clear hcell hcell';by_cases he:bad[k]=bad'[k]
       · have a3:(bad[k] !=bad'[k])=false:=by simp[he]
         have He:=hid he;clear he
         go_wp2_with fail
         refine Az mixed (by kernel_rfl) ?_
         repeat (go_big_quiet_step ((fail)))
         refine wpQuiet_nil ?_;rintro w2 ⟨pq_,hpq_⟩;have a0:=pq_.below;rw[<-hpq_]at a0;clear hpq_ pq_;go_wp2_with fail
         go_roundw
         case rel=>exact⟨k+1,by omega,by go_num,hid (fun j hj hj' hji=>by
          rcases Nat.lt_or_ge j k with h'|h'
          · exact hok.out j hj hj' h'
          · obtain rfl:j=k:=by omega
            exact He.out),⟨hbx.bl a0,hby.bl a0⟩,bt hb a0⟩
         case measure=>simp[intOf];omega
       · have He:=hid (Dk.same_no_bad (D:=⟨data,cache,fuse,off,bad⟩) (E:=⟨data,cache',fuse,off,bad'⟩) k hlt a1 he);have a3:(bad[k] !=bad'[k])=true:=by simpa using he
         clear he;go_wp2_with fail
         refine Az mixed (by kernel_rfl) ?_
         repeat (go_big_quiet_step ((fail)))
         refine wpQuiet_nil ?_;rintro w2 ⟨pq_,hpq_⟩;have a0:=pq_.below;rw[<-hpq_]at a0;clear hpq_ pq_;go_wp2_with fail
         go_ret
         exact⟨by rw[He.out];rfl,bt hb a0⟩
     · have Hb:=hid (show∀j (hj:j<bad.length)(hj':j<bad'.length),bad[j]=bad'[j]from fun j hj hj'=>hok.out j hj hj' (by omega));have Hf:=hid (Dk.same_yes (D:=⟨data,cache,fuse,off,bad⟩) (E:=⟨data,cache',fuse,off,bad'⟩) rfl H2.out rfl rfl H5.out (fun j hj hj'=>a2.out j hj hj') (fun j hj hj'=>Hb.out j hj hj'));clear hok K0 K1;go_wp2_with fail
       go_ret
       exact⟨by rw[Hf.out];rfl,hb⟩
theorem Tryz.infoIntP:(Tryz.prog.info? 3).map (fun i=>(i.zero,i.size,i.bytes))=some (some (.int .i64 0),1,8):=by kernel_rfl
theorem FJ (A:Option Addr)(l:List Int)(c:Nat)(w:World)(hA:Cells w A (intCells l))(hl:l.length<=17592186044416)(hn:A=none->c=0):
 Calls Tryz.prog 115 #[.slice A l.length c] w fun e w'=>∃v',e=.returned v'/\w'.ownsRow w.heap.size 3 1 v' l.length (intCells l)/\Below w.heap.size w w':=by
 have a1:∀(w:World)(a:Option Addr)(n c n' c':Nat),(binOp .eql 23 (.slice a n c) (.slice none n' c')).run Tryz.prog w=.ok (.bool a.isNone) w:=fun w a n c n' c'=>Lib.run_eql_slice_nil w _ _ a n c n' c' Tryz.underlying23
 obtain⟨i0,hi,hz0,hz1,hz2⟩:=info_parts Tryz.infoIntP;cases A with
 |none=>
  have a0:l=[]:=by
   rcases hA with h|⟨b,off,he,_⟩
   · have:=congrArg List.length h;rw[CE]at this;exact List.length_eq_zero_iff.1 (by simpa using this)
   · cases he
  subst a0;go_enter Tryz.func115,Tryz.ntmps115;go_wp2_with fail
  go_ret
  exact⟨_,rfl,World.ownsRow_nil _ _ _ _,Below.refl _ _⟩
 |some ad=>
  go_enter Tryz.func115,Tryz.ntmps115;go_wp2_with (at_builtin;refine Bg rfl _ _ 23 rfl w.heap.size 3 i0 (.int .i64 0) 1 8 Tryz.underlying23 hi hz0 hz1 hz2 rfl (by decide) _ 0 [] rfl (World.ownsRow_made w #[] 0 (Nat.le_refl _) (Nat.zero_le _) rfl) (some ad) l.length c (intCells l) rfl (hA.below (Yz _)) (by rw[CE];simp) (fun h=>by cases h) (GZ _) (by unfold maxLen;omega) (by omega) (by simp) ?_;intro v1 w3 hown1 hbl1;rw[Nat.zero_add,List.nil_append]at hown1)
  go_ret
  exact⟨_,rfl,hown1,(Yz _).trans hbl1⟩
theorem Tryz.infoStrP:(Tryz.prog.info? 9).map (fun i=>(i.zero,i.size,i.bytes))=some (some (.string ⟨#[]⟩),1,16):=by kernel_rfl
theorem FK (A:Option Addr)(l:List (List UInt8))(c:Nat)(w:World)(hA:Cells w A (strCells l))(hl:l.length<=1099511627776)(hn:A=none->c=0):
 Calls Tryz.prog 116 #[.slice A l.length c] w fun e w'=>∃v',e=.returned v'/\w'.ownsRow w.heap.size 9 1 v' l.length (strCells l)/\Below w.heap.size w w':=by
 have a1:∀(w:World)(a:Option Addr)(n c n' c':Nat),(binOp .eql 61 (.slice a n c) (.slice none n' c')).run Tryz.prog w=.ok (.bool a.isNone) w:=fun w a n c n' c'=>Lib.run_eql_slice_nil w _ _ a n c n' c' Tryz.underlying61
 obtain⟨i0,hi,hz0,hz1,hz2⟩:=info_parts Tryz.infoStrP;cases A with
 |none=>
  have a0:l=[]:=by
   rcases hA with h|⟨b,off,he,_⟩
   · have:=congrArg List.length h;rw[strCells_length]at this;exact List.length_eq_zero_iff.1 (by simpa using this)
   · cases he
  subst a0;go_enter Tryz.func116,Tryz.ntmps116;go_wp2_with fail
  go_ret
  exact⟨_,rfl,World.ownsRow_nil _ _ _ _,Below.refl _ _⟩
 |some ad=>
  go_enter Tryz.func116,Tryz.ntmps116;go_wp2_with (at_builtin;refine Bg rfl _ _ 61 rfl w.heap.size 9 i0 (.string ⟨#[]⟩) 1 16 Tryz.underlying61 hi hz0 hz1 hz2 rfl (by decide) _ 0 [] rfl (World.ownsRow_made w #[] 0 (Nat.le_refl _) (Nat.zero_le _) rfl) (some ad) l.length c (strCells l) rfl (hA.below (Yz _)) (by rw[strCells_length];simp) (fun h=>by cases h) (Dq _) (by unfold maxLen;omega) (by omega) (by simp) ?_;intro v1 w3 hown1 hbl1;rw[Nat.zero_add,List.nil_append]at hown1)
  go_ret
  exact⟨_,rfl,hown1,(Yz _).trans hbl1⟩
theorem Et (A:Option Addr)(l:List Int)(c:Nat)(x:Int)(w:World)(hA:Cells w A (intCells l))(hl:l.length<=17592186044416)(M:List (List UInt8)):
 Calls Tryz.prog 117 #[.slice A l.length c,.int .i64 x] w fun e w'=>e=.returned (.int .i64 (Pn.find ⟨l,M⟩ x))/\w'=w:=by
 cases l with
 |nil=>
  refine(Tryz.slices_Index_int_empty A c x w).mono ?_;rintro e w' ⟨rfl,rfl⟩;exact⟨rfl,rfl⟩
 |cons a l=>
  obtain⟨b,off,rfl,hc⟩:=hA.int (i:=0) (by simp);refine(Tryz.slices_Index_int b off (a::l).length c (a::l) x w (Nat.le_refl _) (by omega) (fun j hj=>by rw[hc j hj,List.getD_eq_getElem?_getD,List.getElem?_eq_getElem hj];rfl)).mono ?_;rintro e w' ⟨rfl,rfl⟩;refine⟨?_,rfl⟩
  congr 2
  have hD:∀j (hj:j<(a::l).length),(a::l).getD j 0=(a::l)[j]:=fun j hj=>by rw[List.getD_eq_getElem?_getD,List.getElem?_eq_getElem hj];rfl
  by_cases h:x∈(a::l)
  · obtain⟨i,hi,h1,h2,h3⟩:=Pn.find_in (L:=⟨a::l,M⟩) h;rw[h1];refine Lib.idxOf_hit _ _ i x hi (Nat.le_refl _) ((hD i hi).trans h2) fun j hj=>?_
    rw[hD j (Nat.lt_trans hj hi)];intro e;have:=List.not_of_lt_findIdx (show j<List.findIdx (· ==x) (a::l) by rw[show List.findIdx (· ==x) (a::l)=i from h3];exact hj);rw[e]at this;simp at this
  · rw[Pn.find_out (L:=⟨a::l,M⟩) h];refine Lib.idxOf_miss _ _ x fun j hj=>?_
    rw[hD j hj];intro e;exact h (e▸List.getElem_mem hj)
theorem CJ (k:Int)(w:World):Calls Tryz.prog 114 #[.int .i64 k] w fun e w'=>e=.returned (.bool (!sectorOk k))/\w'=w:=by
 by_cases h0:k<0
 · have Hw:=hid (show sectorOk k=false by simp[sectorOk];omega);go_enter Tryz.func114,Tryz.ntmps114;go_wp2_with fail
   go_ret
   exact⟨by rw[Hw.out];rfl,rfl⟩
 · have Hw:=hid (show(!sectorOk k)=decide (1024<=k) by simp[sectorOk];rw[decide_eq_true (by omega:0<=k)];simp;rw[<-decide_not];congr 1;simp);go_enter Tryz.func114,Tryz.ntmps114;go_wp2_with fail
   go_ret
   exact⟨by rw[Hw.out];rfl,rfl⟩
theorem ER (k:Int)(w:World):CR 90 #[.int .i64 k] w (.bool (sectorOk k)):=by
 by_cases h0:0<=k
 · have Hw:=hid (show sectorOk k=decide (k<1024) by simp[sectorOk,h0]);go_enter Tryz.func90,Tryz.ntmps90;go_wp2_with fail
   go_ret
   exact⟨by rw[Hw.out];rfl,Below.refl _ _⟩
 · have Hw:=hid (show sectorOk k=false by simp[sectorOk,h0]);go_enter Tryz.func90,Tryz.ntmps90;go_wp2_with fail
   go_ret
   exact⟨by rw[Hw.out];rfl,Below.refl _ _⟩
theorem EQ (L:Pn)(p q:Pl)(k:Int)(w:World)(hL:IsPn w L p q)(ht:L.targets.length<=17592186044416):
 CR 91 #[pval L p q,.int .i64 k] w (.int .i64 (L.find k)):=by
 have hc:=fun(W:World)(hb:Below w.heap.size w W)=>hL.targets.below hb
 clear hL;obtain⟨A1,c1⟩:=p;obtain⟨A2,c2⟩:=q;simp only at hc;have x0:=apc2 (Blk.new w 63) L A1 c1 A2 c2;have b0:=Yz (W:=w) (.cells #[.slice A1 L.targets.length c1,.slice A2 L.data.length c2] 63);go_enter Tryz.func91,Tryz.ntmps91;go_wp2_with fail
 go_loopw [5] (fun x W=>∃i:Nat,i<=L.targets.length/\x=.int .i64 i/\Hid (∀j (hj:j<L.targets.length),j<i->L.targets[j]≠k)/\
  Blk W w.heap.size 63 #[.slice A1 L.targets.length c1,.slice A2 L.data.length c2]/\Below w.heap.size w W) (fun x _=>L.targets.length-(intOf x).toNat)
 case atStart=>exact⟨0,Nat.zero_le _,rfl,hid (fun j hj h0=>by omega),x0,b0⟩
 case round=>
  clear x0 b0;obtain⟨i,hi,rfl,hok,hx,hb⟩:=hrel;have k0:=blk2 hx;by_cases hlt:i<L.targets.length
  · obtain⟨pb,po,hpa,hcell⟩:=(hc _ hb).int hlt;subst hpa;have y0:=hcell i hlt;clear hcell;by_cases he:L.targets[i]=k
    · have a0:(L.targets[i]==k)=true:=by simpa using he
      have Hf:=hid (Pn.find_hit hlt he hok.out);clear he;go_wp2_with fail
      go_ret
      exact⟨by rw[Hf.out];rfl,hb⟩
    · have a0:(L.targets[i]==k)=false:=by simpa using he
      have He:=hid he;clear he;go_wp2_with fail
      go_roundw
      case rel=>exact⟨i+1,by omega,by go_num,hid (fun j hj hji=>by
       rcases Nat.lt_or_ge j i with h'|h'
       · exact hok.out j hj h'
       · obtain rfl:j=i:=by omega
         exact He.out),hx,hb⟩
      case measure=>simp[intOf];omega
  · have Hf:=hid (Pn.find_miss fun j hj=>hok.out j hj (by omega));clear hok;go_wp2_with fail
    go_ret
    exact⟨by rw[Hf.out];rfl,hb⟩
theorem M8 (L:Pn)(p q:Pl)(w:World)(hL:IsPn w L p q)(k:Int)(s:List UInt8)(h1:sectorOk k=false):
 CX 77 #[pval L p q,.int .i64 k,.string (bs s)] w (RetPn w.heap.size L p q (L.set k s)):=by
 have Hw:=hid (show L.set k s=(L,10) by simp[Pn.set,h1]);have ho:=fun W=>CJ k W
 rw[h1]at ho;obtain⟨A1,c1⟩:=p;obtain⟨A2,c2⟩:=q;go_enter Tryz.func77,Tryz.ntmps77;go_wp2_with fail
 refine(ho _).mono ?_;rintro e w1 ⟨rfl,rfl⟩;go_wp2_with fail
 rw[Hw.out];have yy:=blk2 (apc2 (Blk.new (w.alloc (.cells #[.slice A1 L.targets.length c1,.slice A2 L.data.length c2] 63)) 63) L A1 c1 A2 c2);simp only[Ys]at yy;have a0:=Aq w (.cells #[.slice A1 L.targets.length c1,.slice A2 L.data.length c2] 63) (.cells #[.slice A1 L.targets.length c1,.slice A2 L.data.length c2] 63);exact retPn (hL.below a0) (fun _ _ h=>h) a0 (by simp[results,Tryz.results77,go_sem,yy]) rfl
theorem M9 (L:Pn)(p q:Pl)(w:World)(hL:IsPn w L p q)(k:Int)(s:List UInt8)(hs:s.length<=9223372036854775807)(h1:sectorOk k=true)(h2:s.length≠64):
 CX 77 #[pval L p q,.int .i64 k,.string (bs s)] w (RetPn w.heap.size L p q (L.set k s)):=by
 have Hw:=hid (show L.set k s=(L,11) by simp[Pn.set,h1,h2]);have ho:=fun W=>CJ k W
 rw[h1]at ho;have n0:((s.length:Int) !=64)=true:=by simp;omega
 obtain⟨A1,c1⟩:=p;obtain⟨A2,c2⟩:=q;go_enter Tryz.func77,Tryz.ntmps77;go_wp2_with fail
 refine(ho _).mono ?_;rintro e w1 ⟨rfl,rfl⟩;go_wp2_with fail
 rw[Hw.out];have yy:=blk2 (apc2 (Blk.new (w.alloc (.cells #[.slice A1 L.targets.length c1,.slice A2 L.data.length c2] 63)) 63) L A1 c1 A2 c2);simp only[Ys]at yy;have a0:=Aq w (.cells #[.slice A1 L.targets.length c1,.slice A2 L.data.length c2] 63) (.cells #[.slice A1 L.targets.length c1,.slice A2 L.data.length c2] 63);exact retPn (hL.below a0) (fun _ _ h=>h) a0 (by simp[results,Tryz.results77,go_sem,yy]) rfl
theorem JN (w:World)(e:TypeId)(l:List UInt8):Below w.heap.size w (Lib.bytesWorld w e (bs l))/\RowB (Lib.bytesWorld w e (bs l)) w.heap.size l:=by
 refine⟨⟨rfl,rfl,rfl,by rw[Lib.bytesWorld_size];omega,fun k hk=>Lib.bytesWorld_at_old w e _ k hk⟩,fun j hj=>⟨?_,?_⟩⟩
 · rw[Lib.bytesWorld_cell w e (bs l) j (by rw[Ab];exact hj),A9];simp[hj]
 · have hs:l.length<=(Lib.bytesCells w e (bs l)).size:=by simp[Lib.bytesCells,bs]
   simp only[World.frozen?,Lib.bytesWorld_at_new];simp;omega
theorem NU (D:Dk)(p q:Pl)(w:World)(hD:IsDk w D p q)(hf:D.fit=true)(all:Bool)(ks:List Bool)(A3:Option Addr)(c3:Nat)(hk:Cells w A3 (boolCells ks))(hkl:ks.length<=9223372036854775807):
 CR 82 #[dval D p q,.bool all,.slice A3 ks.length c3] w (.string (bs (D.last fun i=>all||ks.getD i false))):=by
 obtain⟨A1,c1⟩:=p;obtain⟨A2,c2⟩:=q;obtain⟨f1,f2,f3,f4,f5,_⟩:=Dk.fit_parts hf;have Hf:=hid hf;clear hf
 have aa:=hid f5;clear f5
 have F3:=hid f3;clear f3
 have af:=hD.data;have hb:=Yz (W:=w) (.cells #[.string (bs D.data),.slice A1 D.cache.length c1,.int .i64 D.fuse,.bool D.off,.slice A2 D.bad.length c2] 25);have hbx:=apc5 (Blk.new w 25) D A1 c1 A2 c2;generalize hkeep:(fun i=>all||ks.getD i false)=keep;have a2:=hid hkeep;clear hkeep
 have a6:=fun(W:World)=>Lib.run_convert_string_bytes (P:=Tryz.prog) W 9 139 5 (bs D.data) Tryz.underlying9 Tryz.underlying139 Tryz.underlying5
 simp only[Ab]at a6;go_enter Tryz.func82,Tryz.ntmps82;go_wp2_with fail
 obtain⟨q1,q2⟩:=JN (w.alloc (.cells #[.string (bs D.data),.slice A1 D.cache.length c1,.int .i64 D.fuse,.bool D.off,.slice A2 D.bad.length c2] 25)) 5 D.data;rw[World.size_alloc]at q2;replace hb:=bt hb q1;have hbx:=hbx.below q1 (by simp);have ab:D.data.length<=grownCap (w.alloc (.cells #[.string (bs D.data),.slice A1 D.cache.length c1,.int .i64 D.fuse,.bool D.off,.slice A2 D.bad.length c2] 25)) D.data.length 0 5:=grownCap_ge _ _ _ _;generalize grownCap (w.alloc (.cells #[.string (bs D.data),.slice A1 D.cache.length c1,.int .i64 D.fuse,.bool D.off,.slice A2 D.bad.length c2] 25)) D.data.length 0 5=cap at*;generalize Lib.bytesWorld (w.alloc (.cells #[.string (bs D.data),.slice A1 D.cache.length c1,.int .i64 D.fuse,.bool D.off,.slice A2 D.bad.length c2] 25)) 5 (bs D.data)=w1 at*;clear q1 a6;go_loopw [8] (fun x W=>∃i:Nat,i<=D.cache.length/\x=.int .i64 i/\RowB W (w.heap.size+1) (D.lastN keep i)/\
  Blk W w.heap.size 25 #[.string (bs D.data),.slice A1 D.cache.length c1,.int .i64 D.fuse,.bool D.off,.slice A2 D.bad.length c2]/\Below w.heap.size w W) (fun x _=>D.cache.length-(intOf x).toNat)
 case atStart=>exact⟨0,Nat.zero_le _,rfl,q2,hbx,hb⟩
 case round=>
  clear hbx hb q2;obtain⟨i,hi,rfl,hrow,hbx,hb⟩:=hrel;have k0:=blk5 hbx;by_cases hlt:i<D.cache.length
  · obtain⟨pb,po,hpa,hcell⟩:=(hD.below hb).cache.put hlt;simp only at hpa;subst hpa;obtain⟨x0,x1⟩:=hcell i hlt;clear hcell;obtain⟨z1,z2,z3⟩:=aa.out i hlt;obtain⟨k,s,hx⟩:∃(k:Nat)(s:List UInt8),D.cache[i]=((k:Int),s):=⟨D.cache[i].1.toNat,D.cache[i].2,Prod.ext (by simp;omega) rfl⟩;have Hls:=hid (Dk.lastN_succ D keep i hlt);rw[hx]at x0 x1 z2 z3 Hls;simp only at x0 x1 z2 z3 Hls;clear z1 hx;have a8:D.data.length=D.sz*64:=F3.out;have ag:k*64+64<=D.data.length:=by omega
    have hw:IntKind.i64.wrap ((k:Int)*64)=(k:Int)*64:=IntWalk.i64_in _ (by omega);have ac:(0:Int)<=(k:Int)*64:=by omega
    have ad:(k:Int)*64<=D.data.length:=by omega
    have ae:¬cap=k*64:=by omega
    have ah:((k:Int)*64).toNat=k*64:=by omega
    clear a8
    rcases Bool.eq_false_or_eq_true (keep i)with hki|hki
    · cases all with
      |true=>
       have Hki:=hid hki;clear hki
       go_wp2_with fail
       go_still_tail 15,mixed
       change wpList _ _ _ _ _ wr.drew
       have a0:RowB wr.drew (w.heap.size+1) (D.lastN keep i):=hrow;have a9:=Dk.lastN_length Hf.out keep i;refine wpList_step (fun K hK=>step_copy_string rfl (.tmp 40) (.tmp 46) 139 9 rfl 5 Tryz.underlying139 Tryz.sizeOf5 (w.heap.size+1) (k*64) (D.data.length-k*64) (cap-k*64) rfl (bs s) rfl
        (by rw[Ab];omega) (fun j hj=>by rw[Ab]at hj;rw[(a0 (k*64+j) (by omega)).1];rfl) (fun j hj=>by rw[Ab]at hj;exact(a0 (k*64+j) (by omega)).2) (hK _ _ ?_))
       rw[A9];have a3:=a0.setCells s (k*64) (by omega);have a7:=below_setCells' (B:=w.heap.size) (g:=w.heap.size+1) (by omega) (s.map fun x=>Value.int .u8 (x.toNat:Int)) (k*64) hb.drew;have a4:Blk (wr.drew.setCells (w.heap.size+1) (k*64) (s.map fun x=>Value.int .u8 (x.toNat:Int))) w.heap.size 25 _:=(Bx (by omega) _ _ _).trans hbx;generalize wr.drew.setCells (w.heap.size+1) (k*64) (s.map fun x=>Value.int .u8 (x.toNat:Int))=w3 at*;go_wp2_with fail
       refine⟨?_,?measure⟩
       (repeat apply Exists.intro)
       refine⟨?rel,rfl⟩
       case rel=>exact⟨i+1,by omega,by go_num,by rw[Hls.out,Hki.out,if_pos rfl];exact a3,a4,a7⟩
       case measure=>simp[intOf];omega
      |false=>
       have a1:ks.getD i false=true:=by rw[<-a2.out]at hki;simpa using hki
       have hil:i<ks.length:=by
        rcases Nat.lt_or_ge i ks.length with h|h
        · exact h
        · rw[List.getD_eq_getElem?_getD,List.getElem?_eq_none h]at a1;simp at a1
       obtain⟨kb,ko,hka,hkc⟩:=(hk.below hb).bool hil;subst hka;have kc:=hkc i hil;have a5:ks[i]=true:=by rw[List.getD_eq_getElem?_getD,List.getElem?_eq_getElem hil]at a1;simpa using a1
       rw[a5]at kc;clear hkc a5 a1;have Hki:=hid hki;clear hki
       go_wp2_with fail
       go_still_tail 15,mixed
       change wpList _ _ _ _ _ wr.drew
       have a0:RowB wr.drew (w.heap.size+1) (D.lastN keep i):=hrow;have a9:=Dk.lastN_length Hf.out keep i;refine wpList_step (fun K hK=>step_copy_string rfl (.tmp 40) (.tmp 46) 139 9 rfl 5 Tryz.underlying139 Tryz.sizeOf5 (w.heap.size+1) (k*64) (D.data.length-k*64) (cap-k*64) rfl (bs s) rfl
        (by rw[Ab];omega) (fun j hj=>by rw[Ab]at hj;rw[(a0 (k*64+j) (by omega)).1];rfl) (fun j hj=>by rw[Ab]at hj;exact(a0 (k*64+j) (by omega)).2) (hK _ _ ?_))
       rw[A9];have a3:=a0.setCells s (k*64) (by omega);have a7:=below_setCells' (B:=w.heap.size) (g:=w.heap.size+1) (by omega) (s.map fun x=>Value.int .u8 (x.toNat:Int)) (k*64) hb.drew;have a4:Blk (wr.drew.setCells (w.heap.size+1) (k*64) (s.map fun x=>Value.int .u8 (x.toNat:Int))) w.heap.size 25 _:=(Bx (by omega) _ _ _).trans hbx;generalize wr.drew.setCells (w.heap.size+1) (k*64) (s.map fun x=>Value.int .u8 (x.toNat:Int))=w3 at*;go_wp2_with fail
       refine⟨?_,?measure⟩
       (repeat apply Exists.intro)
       refine⟨?rel,rfl⟩
       case rel=>exact⟨i+1,by omega,by go_num,by rw[Hls.out,Hki.out,if_pos rfl];exact a3,a4,a7⟩
       case measure=>simp[intOf];omega
    · cases all with
      |true=>rw[<-a2.out]at hki;simp at hki
      |false=>
       have a1:ks.getD i false=false:=by rw[<-a2.out]at hki;simpa using hki
       have Hki:=hid hki;clear hki
       by_cases hil:i<ks.length
       · obtain⟨kb,ko,hka,hkc⟩:=(hk.below hb).bool hil;subst hka;have kc:=hkc i hil;have a5:ks[i]=false:=by rw[List.getD_eq_getElem?_getD,List.getElem?_eq_getElem hil]at a1;simpa using a1
         rw[a5]at kc;clear hkc a5 a1;go_wp2_with fail
         go_roundw
         case rel=>exact⟨i+1,by omega,by go_num,by rw[Hls.out,Hki.out,if_neg (by simp)];exact hrow,hbx,hb⟩
         case measure=>simp[intOf];omega
       · clear a1;go_wp2_with fail
         go_roundw
         case rel=>exact⟨i+1,by omega,by go_num,by rw[Hls.out,Hki.out,if_neg (by simp)];exact hrow,hbx,hb⟩
         case measure=>simp[intOf];omega
  · obtain rfl:i=D.cache.length:=by omega
    have a6:=run_convert_bytes_back (P:=Tryz.prog) wr 139 9 5 ⟨w.heap.size+1,0,none⟩ cap (D.lastN keep D.cache.length) Tryz.underlying139 Tryz.underlying5 Tryz.underlying9 (fun j hj=>by
     have e:(Addr.add ⟨w.heap.size+1,0,none⟩ j)=⟨w.heap.size+1,j,none⟩:=by simp only[Addr.add];split<;>simp_all
     rw[e];exact(hrow j hj).1)
    rw[Dk.lastN_length Hf.out,<-F3.out,Ad]at a6;go_wp2_with fail
    go_ret
    exact⟨rfl,hb⟩
theorem HV (D:Dk)(p q:Pl)(hf: -9223372036854775808<=D.fuse/\D.fuse<=9223372036854775807)(w:World):
 CR 83 #[dval D p q] w (dval D.burnt p q):=by
 obtain⟨h1,h2⟩:=hf;by_cases h:0<D.fuse
 · have Hb:=hid (show D.burnt={D with fuse:=D.fuse-1} by simp[Dk.burnt,h]);go_enter Tryz.func83,Tryz.ntmps83;go_wp2_with fail
   rw[Hb.out];refine bodyPost_ret (v:=dval {D with fuse:=D.fuse-1} p q) (by simp[results,Tryz.results83,go_sem]) rfl ⟨rfl,Aq _ _ _⟩
 · have Hb:=hid (show D.burnt=D by simp[Dk.burnt,h]);go_enter Tryz.func83,Tryz.ntmps83;go_wp2_with fail
   rw[Hb.out];refine bodyPost_ret (v:=dval D p q) (by simp[results,Tryz.results83,go_sem]) rfl ⟨rfl,Aq _ _ _⟩
theorem Tryz.infoPut:(Tryz.prog.info? 115).map (fun i=>(i.zero,i.size,i.bytes))=some (some (.agg #[.int .i64 0,.string ⟨#[]⟩]),2,24):=by kernel_rfl
theorem Od (D:Dk)(p q:Pl)(w:World)(hD:IsDk w D p q)(k:Int)(s:List UInt8)(hs:s.length<=9223372036854775807)(h1:D.off=true):
 CX 62 #[dval D p q,.int .i64 k,.string (bs s)] w (RetDkN w.heap.size D p q (D.write k s)):=by
 have Hw:=hid (show D.write k s=(D,12) by simp[Dk.write,h1]);obtain⟨A1,c1⟩:=p;obtain⟨A2,c2⟩:=q;go_enter Tryz.func62,Tryz.ntmps62;go_wp2_with fail
 rw[Hw.out];refine bodyPost_ret (v:=.tuple #[dval D ⟨A1,c1⟩ ⟨A2,c2⟩,.int .i64 12]) (by simp[results,Tryz.results62,go_sem,h1]) rfl ?_;exact⟨⟨_,_,rfl,hD.below (Aq _ _ _),fun _ _ h=>h⟩,Aq _ _ _⟩
theorem Of (D:Dk)(p q:Pl)(w:World)(hD:IsDk w D p q)(k:Int)(s:List UInt8)(hs:s.length<=9223372036854775807)(h1:D.off=false)(h2:D.there k=false):
 CX 62 #[dval D p q,.int .i64 k,.string (bs s)] w (RetDkN w.heap.size D p q (D.write k s)):=by
 have Hw:=hid (show D.write k s=(D,10) by simp[Dk.write, *]);obtain⟨A1,c1⟩:=p;obtain⟨A2,c2⟩:=q;have a2:=hD.data;have a1:=hD.cl;have a0:=Bi D ⟨A1,c1⟩ ⟨A2,c2⟩ hD.data k;rw[h2]at a0;obtain⟨data,cache,fuse,off,bad⟩:=D;simp only at h1 a2 a1;subst h1;clear h2;go_enter Tryz.func62,Tryz.ntmps62;go_wp2_with (go_at_call 85;refine(a0 _).mono ?_;rintro e w1 ⟨rfl,hb1⟩;obtain⟨b0,b1⟩:=AS hb1;have y0:=blk5 b0;have y1:=blk5 b1;have y2:=b1.frozen;have y3:=b0.frozen)
 rw[Hw.out];have z1:=Ap b1 (.string (bs data)) (.slice A1 cache.length c1) (.int .i64 fuse) (.bool false) (.slice A2 bad.length c2);have hb:=Ao (bt (Aq _ _ _) hb1) (g:=w.heap.size+1) (by omega) (.string (bs data)) (.slice A1 cache.length c1) (.int .i64 fuse) (.bool false) (.slice A2 bad.length c2);have z2:=blk5 z1;refine bodyPost_ret (v:=.tuple #[dval ⟨data,cache,fuse,false,bad⟩ ⟨A1,c1⟩ ⟨A2,c2⟩,.int .i64 10]) (by simp[results,Tryz.results62,go_sem,z2]) rfl ?_;exact⟨⟨_,_,rfl,hD.below hb,fun _ _ h=>h⟩,hb⟩
theorem Og (D:Dk)(p q:Pl)(w:World)(hD:IsDk w D p q)(k:Int)(s:List UInt8)(hs:s.length<=9223372036854775807)(h1:D.off=false)(h2:D.there k=true)(h3:s.length≠64):
 CX 62 #[dval D p q,.int .i64 k,.string (bs s)] w (RetDkN w.heap.size D p q (D.write k s)):=by
 have Hw:=hid (show D.write k s=(D,11) by simp[Dk.write, *]);obtain⟨A1,c1⟩:=p;obtain⟨A2,c2⟩:=q;have a2:=hD.data;have a1:=hD.cl;have a0:=Bi D ⟨A1,c1⟩ ⟨A2,c2⟩ hD.data k;rw[h2]at a0;obtain⟨data,cache,fuse,off,bad⟩:=D;simp only at h1 a2 a1;subst h1;have hl:((s.length:Int) !=64)=true:=by simp;omega
 clear h2 h3;go_enter Tryz.func62,Tryz.ntmps62;go_wp2_with (go_at_call 85;refine(a0 _).mono ?_;rintro e w1 ⟨rfl,hb1⟩;obtain⟨b0,b1⟩:=AS hb1;have y0:=blk5 b0;have y1:=blk5 b1;have y2:=b1.frozen;have y3:=b0.frozen)
 rw[Hw.out];have z1:=Ap b1 (.string (bs data)) (.slice A1 cache.length c1) (.int .i64 fuse) (.bool false) (.slice A2 bad.length c2);have hb:=Ao (bt (Aq _ _ _) hb1) (g:=w.heap.size+1) (by omega) (.string (bs data)) (.slice A1 cache.length c1) (.int .i64 fuse) (.bool false) (.slice A2 bad.length c2);have z2:=blk5 z1;refine bodyPost_ret (v:=.tuple #[dval ⟨data,cache,fuse,false,bad⟩ ⟨A1,c1⟩ ⟨A2,c2⟩,.int .i64 11]) (by simp[results,Tryz.results62,go_sem,z2]) rfl ?_;exact⟨⟨_,_,rfl,hD.below hb,fun _ _ h=>h⟩,hb⟩
theorem Ob (D:Dk)(p q:Pl)(w:World)(hD:IsDk w D p q)(k:Int)(s:List UInt8)(hs:s.length<=9223372036854775807)(h1:D.off=false)(h2:D.there k=true)(h3:s.length=64)(h4:D.fuse=0):
 CX 62 #[dval D p q,.int .i64 k,.string (bs s)] w (RetDkN w.heap.size D p q (D.write k s)):=by
 have Hw:=hid (show D.write k s=({D with off:=true},12) by simp[Dk.write, *]);obtain⟨A1,c1⟩:=p;obtain⟨A2,c2⟩:=q;have a3:=hD.data;have a2:=hD.cl;have a1:=Bi D ⟨A1,c1⟩ ⟨A2,c2⟩ hD.data k;rw[h2]at a1;obtain⟨data,cache,fuse,off,bad⟩:=D;simp only at h1 a3 a2 h4;subst h1;subst h4;have hl:((s.length:Int) !=64)=false:=by simp;omega
 clear h2 h3;go_enter Tryz.func62,Tryz.ntmps62;go_wp2_with (go_at_call 85;refine(a1 _).mono ?_;rintro e w1 ⟨rfl,hb1⟩;obtain⟨b0,b1⟩:=AS hb1;have y0:=blk5 b0;have y1:=blk5 b1;have y2:=b1.frozen;have y3:=b0.frozen)
 rw[Hw.out];have z1:=Ap (b1.other (a:=⟨w.heap.size,3,none⟩) (by simp) (.bool true)) (.string (bs data)) (.slice A1 cache.length c1) (.int .i64 0) (.bool true) (.slice A2 bad.length c2);have hb:=Ao ((bt (Aq _ _ _) hb1).setCell (p:=⟨w.heap.size,3,none⟩) (Nat.le_refl _) (.bool true)) (g:=w.heap.size+1) (by omega) (.string (bs data)) (.slice A1 cache.length c1) (.int .i64 0) (.bool true) (.slice A2 bad.length c2);have z2:=blk5 z1;refine bodyPost_ret (v:=.tuple #[dval ⟨data,cache,0,true,bad⟩ ⟨A1,c1⟩ ⟨A2,c2⟩,.int .i64 12]) (by simp[results,Tryz.results62,go_sem,z2]) rfl ?_;have a0:=hD.below hb;exact⟨⟨_,_,rfl,{a0 with cache:=a0.cache},fun _ _ h=>h⟩,hb⟩
theorem Oa (D:Dk)(p q:Pl)(w:World)(hD:IsDk w D p q)(k:Int)(s:List UInt8)(hs:s.length<=9223372036854775807)(h1:D.off=false)(h2:D.there k=true)(h3:s.length=64)(h4:D.fuse≠0)(h5:k∈D.bad):
 CX 62 #[dval D p q,.int .i64 k,.string (bs s)] w (RetDkN w.heap.size D p q (D.write k s)):=by
 have Hw:=hid (show D.write k s=(D,13) by simp[Dk.write, *]);obtain⟨A1,c1⟩:=p;obtain⟨A2,c2⟩:=q;have a5:=hD.data;have a4:=hD.cl;have a3:=Bi D ⟨A1,c1⟩ ⟨A2,c2⟩ hD.data k;rw[h2]at a3;have a2:=fun(W:World)(hW:IsDk W D ⟨A1,c1⟩ ⟨A2,c2⟩)=>CM D ⟨A1,c1⟩ ⟨A2,c2⟩ W hW k
 simp only[h5]at a2;obtain⟨data,cache,fuse,off,bad⟩:=D;simp only at h1 a5 a4 h4;subst h1;have hl:((s.length:Int) !=64)=false:=by simp;omega
 have a6:(fuse==0)=false:=by simpa using h4
 clear h2 h3 h4 h5;go_enter Tryz.func62,Tryz.ntmps62;go_wp2_with (first|(go_at_call 85;refine(a3 _).mono ?_;rintro e w1 ⟨rfl,hb1⟩;obtain⟨b0,b1⟩:=AS hb1;have y0:=blk5 b0;have y1:=blk5 b1;have y2:=b1.frozen;have y3:=b0.frozen)|(go_at_call 101;refine(a2 _ (hD.below (bt (Aq _ _ _) hb1))).mono ?_;rintro e w2 ⟨rfl,hb2⟩;have a1:=b0.bl hb2;have a0:=b1.bl hb2;have a7:=blk5 a1;have a8:=blk5 a0;have a9:=a0.frozen;have aa:=a1.frozen))
 rw[Hw.out];have z1:=Ap a0 (.string (bs data)) (.slice A1 cache.length c1) (.int .i64 fuse) (.bool false) (.slice A2 bad.length c2);have hb:=Ao (bt (bt (Aq _ _ _) hb1) hb2) (g:=w.heap.size+1) (by omega) (.string (bs data)) (.slice A1 cache.length c1) (.int .i64 fuse) (.bool false) (.slice A2 bad.length c2);have z2:=blk5 z1;refine bodyPost_ret (v:=.tuple #[dval ⟨data,cache,fuse,false,bad⟩ ⟨A1,c1⟩ ⟨A2,c2⟩,.int .i64 13]) (by simp[results,Tryz.results62,go_sem,z2]) rfl ?_;exact⟨⟨_,_,rfl,hD.below hb,fun _ _ h=>h⟩,hb⟩
theorem Oc (D:Dk)(p q:Pl)(w:World)(hD:IsDk w D p q)(k:Int)(s:List UInt8)(hs:s.length<=9223372036854775807)(h1:D.off=false)(h2:D.there k=true)(h3:s.length=64)(h4:D.fuse≠0)(h5:k∉D.bad)(h6:4096<=D.cache.length):
 CX 62 #[dval D p q,.int .i64 k,.string (bs s)] w (RetDkN w.heap.size D p q (D.write k s)):=by
 have Hw:=hid (show D.write k s=(D,16) by simp[Dk.write, *]);obtain⟨A1,c1⟩:=p;obtain⟨A2,c2⟩:=q;have a5:=hD.data;have a4:=hD.cl;have a3:=Bi D ⟨A1,c1⟩ ⟨A2,c2⟩ hD.data k;rw[h2]at a3;have a2:=fun(W:World)(hW:IsDk W D ⟨A1,c1⟩ ⟨A2,c2⟩)=>CM D ⟨A1,c1⟩ ⟨A2,c2⟩ W hW k
 simp only[h5]at a2;obtain⟨data,cache,fuse,off,bad⟩:=D;simp only at h1 a5 a4 h4 h6;subst h1;have hl:((s.length:Int) !=64)=false:=by simp;omega
 have a6:(fuse==0)=false:=by simpa using h4
 clear h2 h3 h4 h5;go_enter Tryz.func62,Tryz.ntmps62;go_wp2_with (first|(go_at_call 85;refine(a3 _).mono ?_;rintro e w1 ⟨rfl,hb1⟩;obtain⟨b0,b1⟩:=AS hb1;have y0:=blk5 b0;have y1:=blk5 b1;have y2:=b1.frozen;have y3:=b0.frozen)|(go_at_call 101;refine(a2 _ (hD.below (bt (Aq _ _ _) hb1))).mono ?_;rintro e w2 ⟨rfl,hb2⟩;have a1:=b0.bl hb2;have a0:=b1.bl hb2;have a7:=blk5 a1;have a8:=blk5 a0;have a9:=a0.frozen;have aa:=a1.frozen))
 rw[Hw.out];have z1:=Ap a0 (.string (bs data)) (.slice A1 cache.length c1) (.int .i64 fuse) (.bool false) (.slice A2 bad.length c2);have hb:=Ao (bt (bt (Aq _ _ _) hb1) hb2) (g:=w.heap.size+1) (by omega) (.string (bs data)) (.slice A1 cache.length c1) (.int .i64 fuse) (.bool false) (.slice A2 bad.length c2);have z2:=blk5 z1;refine bodyPost_ret (v:=.tuple #[dval ⟨data,cache,fuse,false,bad⟩ ⟨A1,c1⟩ ⟨A2,c2⟩,.int .i64 16]) (by simp[results,Tryz.results62,go_sem,z2]) rfl ?_;exact⟨⟨_,_,rfl,hD.below hb,fun _ _ h=>h⟩,hb⟩
theorem Oe (D:Dk)(p q:Pl)(w:World)(hD:IsDk w D p q)(k:Int)(hk: -9223372036854775808<=k/\k<=9223372036854775807)(s:List UInt8)(hs:s.length<=9223372036854775807)(h1:D.off=false)(h2:D.there k=true)(h3:s.length=64)(h4:D.fuse≠0)(h5:k∉D.bad)(h6:D.cache.length<4096):
 CX 62 #[dval D p q,.int .i64 k,.string (bs s)] w (RetDkN w.heap.size D p q (D.write k s)):=by
 have Hw:=hid (show D.write k s=(({D with cache:=D.cache++[(k,s)]}:Dk).burnt,0) by simp[Dk.write,h1,h2,h3,h4,h5];omega);obtain⟨A1,c1⟩:=p;obtain⟨A2,c2⟩:=q;have ad:=hD.data;have ac:=hD.cl;have a8:=Bi D ⟨A1,c1⟩ ⟨A2,c2⟩ hD.data k;rw[h2]at a8;have a7:=fun(W:World)(hW:IsDk W D ⟨A1,c1⟩ ⟨A2,c2⟩)=>CM D ⟨A1,c1⟩ ⟨A2,c2⟩ W hW k
 simp only[h5]at a7;obtain⟨data,cache,fuse,off,bad⟩:=D;simp only at h1 ad ac h4 h6;subst h1;have hl:((s.length:Int) !=64)=false:=by simp;omega
 have ae:(fuse==0)=false:=by simpa using h4
 clear h2 h3 h4 h5;go_enter Tryz.func62,Tryz.ntmps62;obtain⟨i0,hi,hz0,hz1,hz2⟩:=info_parts Tryz.infoPut;go_wp2_with (first|(go_at_call 85;refine(a8 _).mono ?_;rintro e w1 ⟨rfl,hb1⟩;obtain⟨b0,b1⟩:=AS hb1;have y0:=blk5 b0;have y1:=blk5 b1;have y2:=b1.frozen;have y3:=b0.frozen)|(go_at_call 101;refine(a7 _ (hD.below (bt (Aq _ _ _) hb1))).mono ?_;rintro e w2 ⟨rfl,hb2⟩;have a1:=b0.bl hb2;have a0:=b1.bl hb2;have af:=blk5 a1;have ah:=blk5 a0;have ak:=a0.frozen;have an:=a1.frozen)|(at_builtin;refine Bg rfl (.tmp 35) (.tmp 37) 22 rfl w2.heap.size 115 i0 (.agg #[.int .i64 0,.string ⟨#[]⟩]) 2 24 Tryz.underlying22 hi hz0 hz1 hz2 rfl (by decide) _ 0 [] rfl (World.ownsRow_nil _ _ _ _) A1 cache.length c1 (putCells cache) rfl ((hD.below (bt (bt (Aq _ _ _) hb1) hb2)).cache) (Cm _) hD.pn (G0 _) (by unfold maxLen;omega) (by omega) (Nat.le_refl _) ?_;intro v1 w3 hown1 hbl1;rw[Nat.zero_add,List.nil_append]at hown1;obtain⟨V1,C1,hv1,hv2,hv3,hv4⟩:=Aw hown1;rw[hv1];rw[hv1]at hown1;clear hv1)|(at_builtin;refine Bg rfl (.tmp 39) (.tmp 43) 22 rfl w2.heap.size 115 i0 (.agg #[.int .i64 0,.string ⟨#[]⟩]) 2 24 Tryz.underlying22 hi hz0 hz1 hz2 rfl (by decide) _ cache.length (putCells cache) rfl (hown1.alloc _) (some ⟨w3.heap.size,0,none⟩) 1 1 [.int .i64 k,.string (bs s)] rfl (FI _ _ _) rfl (fun h=>by cases h) (by simp[Value.oneCell']) (by unfold maxLen;omega) (by omega) (by have:=hbl1.size;simp;omega) ?_;intro v2 w4 hown2 hbl2;obtain⟨V2,C2,hw1,hw2,hw3,hw4⟩:=Aw hown2;rw[hw1];rw[hw1]at hown2;clear hw1;have a6:=((a1.below hbl1 (by have:=a1.lt;omega)).alloc (.cells #[.int .i64 k,.string (bs s)] 115)).below hbl2 (by have:=a1.lt;omega);have a3:=((a0.below hbl1 (by have:=a0.lt;omega)).alloc (.cells #[.int .i64 k,.string (bs s)] 115)).below hbl2 (by have:=a0.lt;omega);have ag:=blk5 a6;have ai:=blk5 a3;have al:=a3.frozen;have ao:=a6.frozen))
 have a5:=HV ⟨data,cache++[(k,s)],fuse,false,bad⟩ ⟨V2,C2⟩ ⟨A2,c2⟩ hD.fuse;obtain⟨F,hF⟩:∃F,F=if 0<fuse then fuse-1 else fuse:=⟨_,rfl⟩
 have ab: -9223372036854775808<=F/\F<=9223372036854775807:=by have:=hD.fuse;simp only at this;rw[hF];split<;>omega
 rw[show(⟨data,cache++[(k,s)],fuse,false,bad⟩:Dk).burnt=⟨data,cache++[(k,s)],F,false,bad⟩ by rw[hF];rfl]at a5 Hw;clear hF;simp only[dval,List.length_append,List.length_singleton]at a5;refine(a5 _).mono ?_;rintro e w5 ⟨rfl,hb5⟩;obtain⟨a9,aj,am⟩:=Z5f ((a3.other (a:=⟨w.heap.size,1,none⟩) (by simp) (.slice V2 (cache.length+1) C2)).below hb5 (by have:=a3.lt;simpa using this));have a2:=bt (bt (Aq _ _ _) hb1) hb2;have a4:Below w.heap.size w w5:=by
  refine Below.trans ?_ (hb5.mono (by have:=hbl1.size;have:=hbl2.size;have:=a2.size;simp at*;omega));refine Below.setCell (p:=⟨w.heap.size,1,none⟩) ?_ (Nat.le_refl _) _;exact((a2.trans (hbl1.mono a2.size)).alloc (by have:=hbl1.size;have:=a2.size;omega) _).trans (hbl2.mono a2.size)
 go_wp2_with fail
 rw[Hw.out];have z1:=Ap a9 (.string (bs data)) (.slice V2 (cache.length+1) C2) (.int .i64 F) (.bool false) (.slice A2 bad.length c2);have hb:=Ao a4 (g:=w.heap.size+1) (by omega) (.string (bs data)) (.slice V2 (cache.length+1) C2) (.int .i64 F) (.bool false) (.slice A2 bad.length c2);have z2:=blk5 z1;refine bodyPost_ret (v:=.tuple #[dval ⟨data,cache++[(k,s)],F,false,bad⟩ ⟨V2,C2⟩ ⟨A2,c2⟩,.int .i64 0]) (by simp[results,Tryz.results62,go_sem,z2]) rfl ?_;have aa:=hD.below hb;refine⟨⟨⟨V2,C2⟩,⟨A2,c2⟩,rfl,{aa with cache:=?_,pn:=hw4,pc:=by simpa using hw2,pm:=hw3,cl:=by simp;omega,fuse:=ab,strs:=?_,ats:=?_},fun g hg h=>⟨by have:=A7 (g:=g) hown2 (by have:=a0.lt;omega);simpa using this,h.2⟩⟩,hb⟩
 · have hc:=Cells.of_own hown2;have e0:putCells cache++[.int .i64 k,.string (bs s)]=putCells (cache++[(k,s)]):=by simp[putCells]
   rw[e0]at hc;have q0:=AF hown2 a1.lt;have q1:=AF hown2 a0.lt;exact((hc.setCell (p:=⟨w.heap.size,1,none⟩) q0 _).below hb5).set5 q1 _ _ _ _ _
 · intro x hx
   rcases List.mem_append.1 hx with h|h
   · exact hD.strs x h
   · simp at h;subst h;exact hs
 · intro x hx
   rcases List.mem_append.1 hx with h|h
   · exact hD.ats x h
   · simp at h;subst h;exact hk
theorem DD (D:Dk)(p q:Pl)(w:World)(hD:IsDk w D p q)(k:Int)(hk: -9223372036854775808<=k/\k<=9223372036854775807)(s:List UInt8)(hs:s.length<=9223372036854775807):
 CX 62 #[dval D p q,.int .i64 k,.string (bs s)] w (RetDkN w.heap.size D p q (D.write k s)):=by
 cases h1:D.off with
 |true=>exact Od D p q w hD k s hs h1
 |false=>
  cases h2:D.there k with
  |false=>exact Of D p q w hD k s hs h1 h2
  |true=>
   by_cases h3:s.length=64
   · by_cases h4:D.fuse=0
     · exact Ob D p q w hD k s hs h1 h2 h3 h4
     · by_cases h5:k∈D.bad
       · exact Oa D p q w hD k s hs h1 h2 h3 h4 h5
       · by_cases h6:4096<=D.cache.length
         · exact Oc D p q w hD k s hs h1 h2 h3 h4 h5 h6
         · exact Oe D p q w hD k hk s hs h1 h2 h3 h4 h5 (by omega)
   · exact Og D p q w hD k s hs h1 h2 h3
theorem N9 (D:Dk)(p q:Pl)(w:World)(hD:IsDk w D p q)(k:Int)(hk:D.there k=true)(hl:D.data.length=D.sz*64):
 CR 129 #[dval D p q,.int .i64 k] w (.string (bs (D.sees k))):=by
 obtain⟨A1,c1⟩:=p;obtain⟨A2,c2⟩:=q;have a2:=hD.cl;have a3:=hD.data;have a0:0<=k/\k<D.sz:=by simpa[Dk.there]using hk
 obtain⟨k,rfl⟩:=Int.eq_ofNat_of_zero_le a0.1;have a4:k*64+64<=D.data.length:=by rw[hl];omega
 clear hk a0;have Hl:=hid hl;clear hl
 have hb:=Yz (W:=w) (.cells #[.string (bs D.data),.slice A1 D.cache.length c1,.int .i64 D.fuse,.bool D.off,.slice A2 D.bad.length c2] 25);have hbx:=apc5 (Blk.new w 25) D A1 c1 A2 c2;go_enter Tryz.func129,Tryz.ntmps129;go_wp2_with fail
 go_loopw [5] (fun x W=>∃n:Nat,n<=D.cache.length/\x=.int .i64 ((n:Int)-1)/\Hid (∀j (hj:j<D.cache.length),n<=j->D.cache[j].1≠k)/\
  Blk W w.heap.size 25 #[.string (bs D.data),.slice A1 D.cache.length c1,.int .i64 D.fuse,.bool D.off,.slice A2 D.bad.length c2]/\Below w.heap.size w W) (fun x _=>(intOf x+1).toNat)
 case atStart=>exact⟨D.cache.length,Nat.le_refl _,rfl,hid (fun j hj h0=>by omega),hbx,hb⟩
 case round=>
  clear hbx hb;obtain⟨n,hn,rfl,hok,hbx,hb⟩:=hrel;have k0:=blk5 hbx;by_cases hlt:0<n
  · obtain⟨pb,po,hpa,hcell⟩:=(hD.below hb).cache.put (i:=n-1) (by omega);simp only at hpa;subst hpa;obtain⟨x0,x1⟩:=hcell (n-1) (by omega);clear hcell;by_cases he:(D.cache[n-1]'(by omega)).1=k
    · have a1:((D.cache[n-1]'(by omega)).1==(k:Int))=true:=by simpa using he
      have Hs:=hid (show D.sees k=(D.cache[n-1]'(by omega)).2 by
       rw[Dk.sees,Dk.seesIn_some (show n-1<D.cache.length by omega) he (fun j hj hij=>hok.out j hj (by omega))];rfl)
      clear he;go_wp2_with fail
      go_ret
      exact⟨by rw[Hs.out];rfl,hb⟩
    · have a1:((D.cache[n-1]'(by omega)).1==(k:Int))=false:=by simpa using he
      have He:=hid he;clear he
      go_wp2_with fail
      go_roundw
      case rel=>exact⟨n-1,by omega,Ik (by omega),hid (fun j hj hji=>by
       rcases Nat.lt_or_ge j n with h'|h'
       · obtain rfl:j=n-1:=by omega
         exact He.out
       · exact hok.out j hj h'),hbx,hb⟩
      case measure=>simp[intOf];omega
  · obtain rfl:n=0:=by omega
    have Hs:=hid (show D.sees k=D.sector k by rw[Dk.sees,Dk.seesIn_none (fun j hj=>hok.out j hj (by omega))];simp);clear hok;have m1:(0:Int)<=(k:Int)*64:=by omega
    have m3:((k:Int)+1)*64<=D.data.length:=by omega
    go_wp2_with fail
    go_ret
    exact⟨by rw[Hs.out];simp[Dk.sector],hb⟩
theorem N5 (D:Dk)(p q:Pl)(w:World)(hD:IsDk w D p q)(k:Int)(h1:D.off=true):
 CR 98 #[dval D p q,.int .i64 k] w (.tuple #[.string (bs (D.read k).1),.int .i64 (D.read k).2]):=by
 have Hw:=hid (show D.read k=([],12) by simp[Dk.read, *]);obtain⟨A1,c1⟩:=p;obtain⟨A2,c2⟩:=q;go_enter Tryz.func98,Tryz.ntmps98;go_wp2_with fail
 go_ret2
 exact⟨by rw[Hw.out];rfl,Yz (W:=w) _⟩
theorem N7 (D:Dk)(p q:Pl)(w:World)(hD:IsDk w D p q)(k:Int)(h1:D.off=false)(h2:D.there k=false):
 CR 98 #[dval D p q,.int .i64 k] w (.tuple #[.string (bs (D.read k).1),.int .i64 (D.read k).2]):=by
 have Hw:=hid (show D.read k=([],10) by simp[Dk.read, *]);obtain⟨A1,c1⟩:=p;obtain⟨A2,c2⟩:=q;have a0:=Bi D ⟨A1,c1⟩ ⟨A2,c2⟩ hD.data k;rw[h2]at a0;have a1:=Yz (W:=w) (.cells #[.string (bs D.data),.slice A1 D.cache.length c1,.int .i64 D.fuse,.bool D.off,.slice A2 D.bad.length c2] 25);clear h2;obtain⟨data,cache,fuse,off,bad⟩:=D;simp only at h1;subst h1;go_enter Tryz.func98,Tryz.ntmps98;go_wp2_with (go_at_call 85;refine(a0 _).mono ?_;rintro e w1 ⟨rfl,hb1⟩;have b0:=BZ _ _ hb1;have y0:=blk5 b0)
 go_ret2
 exact⟨by rw[Hw.out];rfl,bt a1 hb1⟩
theorem N4 (D:Dk)(p q:Pl)(w:World)(hD:IsDk w D p q)(k:Int)(h1:D.off=false)(h2:D.there k=true)(h5:k∈D.bad):
 CR 98 #[dval D p q,.int .i64 k] w (.tuple #[.string (bs (D.read k).1),.int .i64 (D.read k).2]):=by
 have Hw:=hid (show D.read k=([],13) by simp[Dk.read, *]);obtain⟨A1,c1⟩:=p;obtain⟨A2,c2⟩:=q;have a2:=Bi D ⟨A1,c1⟩ ⟨A2,c2⟩ hD.data k;rw[h2]at a2;have a1:=fun(W:World)(hW:IsDk W D ⟨A1,c1⟩ ⟨A2,c2⟩)=>CM D ⟨A1,c1⟩ ⟨A2,c2⟩ W hW k
 simp only[h5]at a1;have a0:=Yz (W:=w) (.cells #[.string (bs D.data),.slice A1 D.cache.length c1,.int .i64 D.fuse,.bool D.off,.slice A2 D.bad.length c2] 25);clear h2 h5;obtain⟨data,cache,fuse,off,bad⟩:=D;simp only at h1;subst h1;go_enter Tryz.func98,Tryz.ntmps98;go_wp2_with (first|(go_at_call 85;refine(a2 _).mono ?_;rintro e w1 ⟨rfl,hb1⟩;have b0:=BZ _ _ hb1;have y0:=blk5 b0)|(go_at_call 101;refine(a1 _ (hD.below (bt a0 hb1))).mono ?_;rintro e w2 ⟨rfl,hb2⟩;have a3:=b0.bl hb2;have a4:=blk5 a3))
 go_ret2
 exact⟨by rw[Hw.out];rfl,bt (bt a0 hb1) hb2⟩
theorem N6 (D:Dk)(p q:Pl)(w:World)(hD:IsDk w D p q)(k:Int)(h1:D.off=false)(h2:D.there k=true)(h5:k∉D.bad)(hl:D.data.length=D.sz*64):
 CR 98 #[dval D p q,.int .i64 k] w (.tuple #[.string (bs (D.read k).1),.int .i64 (D.read k).2]):=by
 have Hw:=hid (show D.read k=(D.sees k,0) by simp[Dk.read, *]);obtain⟨A1,c1⟩:=p;obtain⟨A2,c2⟩:=q;have a2:=Bi D ⟨A1,c1⟩ ⟨A2,c2⟩ hD.data k;rw[h2]at a2;have a1:=fun(W:World)(hW:IsDk W D ⟨A1,c1⟩ ⟨A2,c2⟩)=>CM D ⟨A1,c1⟩ ⟨A2,c2⟩ W hW k
 simp only[h5]at a1;have a0:=Yz (W:=w) (.cells #[.string (bs D.data),.slice A1 D.cache.length c1,.int .i64 D.fuse,.bool D.off,.slice A2 D.bad.length c2] 25);have H2:=hid h2;clear h2 h5
 have Hl:=hid hl;clear hl
 obtain⟨data,cache,fuse,off,bad⟩:=D;simp only at h1;subst h1;go_enter Tryz.func98,Tryz.ntmps98;go_wp2_with (first|(go_at_call 85;refine(a2 _).mono ?_;rintro e w1 ⟨rfl,hb1⟩;have b0:=BZ _ _ hb1;have y0:=blk5 b0)|(go_at_call 101;refine(a1 _ (hD.below (bt a0 hb1))).mono ?_;rintro e w2 ⟨rfl,hb2⟩;have a3:=b0.bl hb2;have a4:=blk5 a3)|(go_at_call 129;refine(N9 ⟨data,cache,fuse,false,bad⟩ ⟨A1,c1⟩ ⟨A2,c2⟩ _ (hD.below (bt (bt a0 hb1) hb2)) k H2.out Hl.out).mono ?_;rintro e w3 ⟨rfl,hb3⟩))
 go_ret2
 exact⟨by rw[Hw.out];rfl,bt (bt (bt a0 hb1) hb2) hb3⟩
theorem DC (D:Dk)(p q:Pl)(w:World)(hD:IsDk w D p q)(k:Int)(hl:D.data.length=D.sz*64):
 CR 98 #[dval D p q,.int .i64 k] w (.tuple #[.string (bs (D.read k).1),.int .i64 (D.read k).2]):=by
 cases h1:D.off with
 |true=>exact N5 D p q w hD k h1
 |false=>
  cases h2:D.there k with
  |false=>exact N7 D p q w hD k h1 h2
  |true=>
   by_cases h5:k∈D.bad
   · exact N4 D p q w hD k h1 h2 h5
   · exact N6 D p q w hD k h1 h2 h5 hl
theorem NZ (D:Dk)(p q:Pl)(w:World)(hD:IsDk w D p q)(h1:D.off=true):
 CX 41 #[dval D p q] w (RetDkN w.heap.size D p q D.flush):=by
 have Hw:=hid (show D.flush=(D,12) by simp[Dk.flush,h1]);go_enter Tryz.func41,Tryz.ntmps41;go_wp2_with fail
 rw[Hw.out];refine bodyPost_ret (v:=.tuple #[dval D p q,.int .i64 12]) (by simp[results,Tryz.results41,go_sem,h1]) rfl ?_;exact⟨⟨_,_,rfl,hD.below (Aq _ _ _),fun _ _ h=>h⟩,Aq _ _ _⟩
theorem NY (D:Dk)(p q:Pl)(w:World)(hD:IsDk w D p q)(h1:D.off=false)(h2:D.fuse=0):
 CX 41 #[dval D p q] w (RetDkN w.heap.size D p q D.flush):=by
 have Hw:=hid (show D.flush=({D with off:=true},12) by simp[Dk.flush,h1,h2]);go_enter Tryz.func41,Tryz.ntmps41;go_wp2_with fail
 rw[Hw.out];refine bodyPost_ret (v:=.tuple #[dval {D with off:=true} p q,.int .i64 12]) (by simp[results,Tryz.results41,go_sem,h2]) rfl ?_;exact⟨⟨_,_,rfl,(hD.setOff true).below (Aq _ _ _),fun _ _ h=>h⟩,Aq _ _ _⟩
theorem N0 (D:Dk)(p q:Pl)(w:World)(hD:IsDk w D p q)(hf:D.fit=true)(h1:D.off=false)(h2:D.fuse≠0):
 CX 41 #[dval D p q] w (RetDkN w.heap.size D p q D.flush):=by
 have Hw:=hid (show D.flush=(({D with data:=D.last fun _=>true,cache:=[]}:Dk).burnt,0) by simp[Dk.flush,h1,h2]);have a3:=Dk.lastN_length hf (fun _=>true) D.cache.length;obtain⟨f1,f2,f3,_⟩:=Dk.fit_parts hf;obtain⟨A1,c1⟩:=p;obtain⟨A2,c2⟩:=q;have a0:=fun(W:World)(hW:IsDk W D ⟨A1,c1⟩ ⟨A2,c2⟩)=>NU D ⟨A1,c1⟩ ⟨A2,c2⟩ W hW hf true [] none 0 (.inl rfl) (by simp)
 simp only[Bool.true_or,List.length_nil]at a0
 change (D.last fun _=>true).length=_ at a3
 generalize (D.last fun _=>true)=L at*;have hL:L.length<=140737488355328:=by have:=hD.data;omega
 clear f1 f2 f3 a3 hf;have a5:(D.fuse==0)=false:=by simpa using h2
 clear h2;obtain⟨data,cache,fuse,off,bad⟩:=D;simp only at h1 a5;subst h1;obtain⟨F,hF⟩:∃F,F=if 0<fuse then fuse-1 else fuse:=⟨_,rfl⟩
 have a4: -9223372036854775808<=F/\F<=9223372036854775807:=by have:=hD.fuse;simp only at this;rw[hF];split<;>omega
 have a2:=HV ⟨L,[],fuse,false,bad⟩ ⟨none,0⟩ ⟨A2,c2⟩ hD.fuse;rw[show(⟨L,[],fuse,false,bad⟩:Dk).burnt=⟨L,[],F,false,bad⟩ by rw[hF];rfl]at a2 Hw;clear hF;simp only[dval,List.length_nil]at a2;go_enter Tryz.func41,Tryz.ntmps41;go_wp2_with (first|(go_at_call 82;refine(a0 _ (hD.below (Aq _ _ _))).mono ?_;rintro e w1 ⟨rfl,hb1⟩;obtain⟨b0,b1⟩:=AS hb1;have y0:=blk5 b0;have y1:=blk5 b1;have y2:=b1.frozen;have y3:=b0.frozen)|(go_at_call 83;refine(a2 _).mono ?_;rintro e w2 ⟨rfl,hb2⟩;have a1:=((b1.other (a:=⟨w.heap.size,0,none⟩) (by simp) (.string (bs L))).other (a:=⟨w.heap.size,1,none⟩) (by simp) (.slice none 0 0)).below hb2 (by have:=b1.lt;simpa using this);have a6:=blk5 a1;have a7:=a1.frozen))
 rw[Hw.out];have z1:=Ap a1 (.string (bs L)) (.slice none 0 0) (.int .i64 F) (.bool false) (.slice A2 bad.length c2);have hb:=Ao (bt (((bt (Aq _ _ _) hb1).setCell (p:=⟨w.heap.size,0,none⟩) (Nat.le_refl _) (.string (bs L))).setCell (p:=⟨w.heap.size,1,none⟩) (Nat.le_refl _) (.slice none 0 0)) hb2) (g:=w.heap.size+1) (by omega) (.string (bs L)) (.slice none 0 0) (.int .i64 F) (.bool false) (.slice A2 bad.length c2);have z2:=blk5 z1;refine bodyPost_ret (v:=.tuple #[dval ⟨L,[],F,false,bad⟩ ⟨none,0⟩ ⟨A2,c2⟩,.int .i64 0]) (by simp[results,Tryz.results41,go_sem,z2]) rfl ?_;exact⟨⟨_,_,rfl,((hD.flushed hL).setFuse a4).below hb,fun _ _ h=>⟨.inl rfl,h.2⟩⟩,hb⟩
theorem DB (D:Dk)(p q:Pl)(w:World)(hD:IsDk w D p q)(hf:D.fit=true):
 CX 41 #[dval D p q] w (RetDkN w.heap.size D p q D.flush):=by
 cases h1:D.off with
 |true=>exact NZ D p q w hD h1
 |false=>
  by_cases h2:D.fuse=0
  · exact NY D p q w hD h1 h2
  · exact N0 D p q w hD hf h1 h2
theorem N2 (n:Int)(h:n<1\/1024<n)(w:World):
 CX 48 #[.int .i64 n] w (RetDk (Dk.fresh n)):=by
 have Hw:=hid (show Dk.fresh n=(⟨[],[],0,false,[]⟩,11) by simp[Dk.fresh,h]);by_cases h0:n<1
 · clear h;go_enter Tryz.func48,Tryz.ntmps48;go_wp2_with fail
   rw[Hw.out];refine bodyPost_ret (v:=.tuple #[dval ⟨[],[],0,false,[]⟩ ⟨none,0⟩ ⟨none,0⟩,.int .i64 11]) (by simp[results,Tryz.results48,go_sem]) rfl ?_;exact⟨⟨_,_,rfl,GA _⟩,Yz _⟩
 · have h1:1024<n:=by omega
   clear h;go_enter Tryz.func48,Tryz.ntmps48;go_wp2_with fail
   rw[Hw.out];refine bodyPost_ret (v:=.tuple #[dval ⟨[],[],0,false,[]⟩ ⟨none,0⟩ ⟨none,0⟩,.int .i64 11]) (by simp[results,Tryz.results48,go_sem]) rfl ?_;exact⟨⟨_,_,rfl,GA _⟩,Yz _⟩
theorem Tryz.infoByte':(Tryz.prog.info? 5).map (fun i=>(i.zero,i.size,i.bytes))=some (some (.int .u8 0),1,1):=by kernel_rfl
theorem N3 (n:Nat)(h0:1<=n)(h1:n<=1024)(w:World):
 CX 48 #[.int .i64 n] w (RetDk (Dk.fresh n)):=by
 have Hw:=hid (show Dk.fresh n=(⟨List.replicate (n*64) 0,[],-1,false,[]⟩,0) by rw[Dk.fresh,if_neg (by omega),Nat.mul_comm];simp);obtain⟨i0,hi,hz0,hz1,hz2⟩:=info_parts Tryz.infoByte';have a3:=fun W=>BK (P:=Tryz.prog) 139 5 i0 (.int .u8 0) Tryz.underlying139 hi hz0 .i64 .i64 (n*64) (n*64) (Nat.le_refl _) (by rw[hz2];omega) (by omega) W
 rw[hz1,Nat.mul_one,show((n*64:Nat):Int)=(n:Int)*64 by omega]at a3;have a0:=fun(W:World)=>run_convert_bytes_back (P:=Tryz.prog) (W.alloc (.cells (madeCells #[.int .u8 0] (n*64)) 5)) 139 9 5 ⟨W.heap.size,0,none⟩ (n*64) (List.replicate (n*64) 0) Tryz.underlying139 Tryz.underlying5 Tryz.underlying9 (fun j hj=>by
  have a2:j<n*64:=by simpa using hj
  rw[Bj,(Blk.new W _ _).cell,<-Array.getElem?_toList,toList_madeCells_one];simp[a2])
 simp only[List.length_replicate]at a0;have a1:=a0 (w.alloc (.cells #[.string (bs []),.slice none 0 0,.int .i64 0,.bool false,.slice none 0 0] 25));rw[Ad,World.size_alloc]at a1;clear a0;go_enter Tryz.func48,Tryz.ntmps48;go_wp2_with fail
 rw[Hw.out];refine bodyPost_ret (v:=.tuple #[dval ⟨List.replicate (n*64) 0,[],-1,false,[]⟩ ⟨none,0⟩ ⟨none,0⟩,.int .i64 0]) (by simp[results,Tryz.results48,go_sem]) rfl ?_;exact⟨⟨_,_,rfl,LU _ _ (by simp;omega)⟩,Aq _ _ _⟩
theorem N1 (n:Int)(w:World):
 CX 48 #[.int .i64 n] w (RetDk (Dk.fresh n)):=by
 by_cases h:n<1\/1024<n
 · exact N2 n h w
 · obtain⟨k,rfl⟩:=Int.eq_ofNat_of_zero_le (show 0<=n by omega);exact N3 k (by omega) (by omega) w
theorem M4 (D:Dk)(L:Pn)(p q p' q':Pl)(w:World)(hD:IsDk w D p q)(hL:IsPn w L p' q')(k:Int)(hl:D.data.length=D.sz*64)(ht:L.targets.length<=1000000)(he:L.targets.length=L.data.length):
 CR 138 #[dval D p q,pval L p' q',.int .i64 k] w (.tuple #[.string (bs (Pn.look D L k).1),.int .i64 (Pn.look D L k).2]):=by
 have hi:=fun(W:World)(hb:Below w.heap.size w W)=>Et p'.a L.targets p'.c k W (hL.targets.below hb) (by omega) L.data
 have hr:=fun(W:World)(hb:Below w.heap.size w W)=>Ku D p q W (hD.below hb) k hl
 have hc:=fun(W:World)(hb:Below w.heap.size w W)=>hL.data.below hb
 clear hL hD;obtain⟨A1,c1⟩:=p;obtain⟨A2,c2⟩:=q;obtain⟨B1,d1⟩:=p';obtain⟨B2,d2⟩:=q';simp only at hi hc;have hb:=Aq w (.cells #[.string (bs D.data),.slice A1 D.cache.length c1,.int .i64 D.fuse,.bool D.off,.slice A2 D.bad.length c2] 25) (.cells #[.slice B1 L.targets.length d1,.slice B2 L.data.length d2] 63);by_cases hm:k∈L.targets
 · obtain⟨i,hi0,h1,h2,h3⟩:=Pn.find_in hm;have a0:i<L.data.length:=by omega
   have Hw:=hid (show Pn.look D L k=(L.data[i],0) by rw[Pn.look,if_pos hm,h3,List.getD_eq_getElem?_getD,List.getElem?_eq_getElem a0];rfl);obtain⟨pb,po,hpa,hcell⟩:=(hc _ hb).str a0;subst hpa;have y0:=hcell i a0;clear hcell;have a1:=hi _ hb;rw[show(⟨L.targets,L.data⟩:Pn).find k=i from h1]at a1;clear hi hr hc h1 h2 h3 hm he;go_enter Tryz.func138,Tryz.ntmps138;go_wp2_with fail
   refine a1.mono ?_;rintro e w1 ⟨rfl,rfl⟩;go_wp2_with fail
   go_ret2
   exact⟨by rw[Hw.out];rfl,hb⟩
 · have Hw:=hid (show Pn.look D L k=D.read k by rw[Pn.look,if_neg hm]);have a1:=hi _ hb;rw[show(⟨L.targets,L.data⟩:Pn).find k= -1 from Pn.find_out hm]at a1;clear hi hc hm he;go_enter Tryz.func138,Tryz.ntmps138;go_wp2_with fail
   refine a1.mono ?_;rintro e w1 ⟨rfl,rfl⟩;go_wp2_with fail
   refine(hr _ hb).mono ?_;rintro e w2 ⟨rfl,hb2⟩;go_wp2_with fail
   go_ret2
   exact⟨by rw[Hw.out];rfl,bt hb hb2⟩
theorem Co (D:Dk)(L:Pn)(p q p' q':Pl)(w:World)(hD:IsDk w D p q)(hL:IsPn w L p' q')(k:Int)(hl:D.data.length=D.sz*64)(ht:L.targets.length<=1000000)(he:L.targets.length=L.data.length):
 CR 71 #[dval D p q,pval L p' q',.int .i64 k] w (.tuple #[.string (bs (Pn.look D L k).1),.int .i64 (Pn.look D L k).2]):=by
 have hi:=fun(W:World)(hb:Below w.heap.size w W)=>EQ L p' q' k W (hL.below hb) (by omega)
 have hr:=fun(W:World)(hb:Below w.heap.size w W)=>DC D p q W (hD.below hb) k hl
 have hc:=fun(W:World)(hb:Below w.heap.size w W)=>hL.data.below hb
 clear hL hD;obtain⟨A1,c1⟩:=p;obtain⟨A2,c2⟩:=q;obtain⟨B1,d1⟩:=p';obtain⟨B2,d2⟩:=q';simp only at hc;have hb:=Aq w (.cells #[.string (bs D.data),.slice A1 D.cache.length c1,.int .i64 D.fuse,.bool D.off,.slice A2 D.bad.length c2] 25) (.cells #[.slice B1 L.targets.length d1,.slice B2 L.data.length d2] 63);have x0:=(apc5 (Blk.new w 25) D A1 c1 A2 c2).alloc (.cells #[.slice B1 L.targets.length d1,.slice B2 L.data.length d2] 63);have z0:=apc2 (Blk.new (w.alloc (.cells #[.string (bs D.data),.slice A1 D.cache.length c1,.int .i64 D.fuse,.bool D.off,.slice A2 D.bad.length c2] 25)) 63) L B1 d1 B2 d2;simp only[Ys]at z0;by_cases hm:k∈L.targets
 · obtain⟨i,hi0,h1,h2,h3⟩:=Pn.find_in hm;have a0:i<L.data.length:=by omega
   have Hw:=hid (show Pn.look D L k=(L.data[i],0) by rw[Pn.look,if_pos hm,h3,List.getD_eq_getElem?_getD,List.getElem?_eq_getElem a0];rfl);rw[h1]at hi;clear hr h1 h2 h3 hm he;go_enter Tryz.func71,Tryz.ntmps71;go_wp2_with fail
   refine(hi _ hb).mono ?_;rintro e w1 ⟨rfl,hb1⟩;have k1:=blk2 (z0.below hb1 (by simp));have b1:=bt hb hb1;obtain⟨pb,po,hpa,hcell⟩:=(hc _ b1).str a0;subst hpa;have y0:=hcell i a0;clear hcell;go_wp2_with fail
   go_ret2
   exact⟨by rw[Hw.out];rfl,b1⟩
 · have Hw:=hid (show Pn.look D L k=D.read k by rw[Pn.look,if_neg hm]);rw[Pn.find_out hm]at hi;clear hc hm he;go_enter Tryz.func71,Tryz.ntmps71;go_wp2_with fail
   refine(hi _ hb).mono ?_;rintro e w1 ⟨rfl,hb1⟩;have k1:=blk2 (z0.below hb1 (by simp));have k2:=blk5 (x0.below hb1 (by simp;omega));have b1:=bt hb hb1;go_wp2_with fail
   refine(hr _ b1).mono ?_;rintro e w2 ⟨rfl,hb2⟩;go_wp2_with fail
   go_ret2
   exact⟨by rw[Hw.out];rfl,bt b1 hb2⟩
abbrev gval (g h:Int):Value:=.agg #[.int .i64 g,.int .i64 h]
def geomOk (g h:Int):Bool:=decide (0<g)&&(decide (g<=64)&&(decide (8<=h)&&decide (h<=256)))
theorem Em {g h:Int}:geomOk g h=true↔0<g/\g<=64/\8<=h/\h<=256:=by simp[geomOk]
theorem EP (g h:Int)(w:World):CR 43 #[gval g h] w (.bool (geomOk g h)):=by
 have hb:=Yz (W:=w) (.cells #[.int .i64 g,.int .i64 h] 27);by_cases h1:1<=g
 · have a0:0<g:=by omega
   by_cases h2:g<=64
   · by_cases h3:8<=h
     · have Hw:=hid (show geomOk g h=decide (h<=256) by simp[geomOk,a0,h2,h3]);go_enter Tryz.func43,Tryz.ntmps43;go_wp2_with fail
       go_ret
       exact⟨by rw[Hw.out];rfl,hb⟩
     · have Hw:=hid (show geomOk g h=false by simp[geomOk,h3]);go_enter Tryz.func43,Tryz.ntmps43;go_wp2_with fail
       go_ret
       exact⟨by rw[Hw.out];rfl,hb⟩
   · have Hw:=hid (show geomOk g h=false by simp[geomOk,h2]);go_enter Tryz.func43,Tryz.ntmps43;go_wp2_with fail
     go_ret
     exact⟨by rw[Hw.out];rfl,hb⟩
 · have Hw:=hid (show geomOk g h=false by simp[geomOk];omega);go_enter Tryz.func43,Tryz.ntmps43;go_wp2_with fail
   go_ret
   exact⟨by rw[Hw.out];rfl,hb⟩
def GR:List UInt8:=[67,79,70,49]
theorem Ia (k:Nat)(hk:k<256)(w:World):CR 94 #[.int .i64 k] w (.tuple #[.int .i64 (87+(k:Int)/32),.int .i64 (2*((k%32:Nat):Int))]):=by
 go_enter Tryz.func94,Tryz.ntmps94;go_wp2_with fail
 go_ret2
 refine⟨?_,Below.refl _ _⟩;simp
theorem BR (k:Int)(h0: -1000000<=k)(h1:k<=1000000)(w:World):CR 63 #[.int .i64 k] w (.int .i64 (96+2*k)):=by
 go_enter Tryz.func63,Tryz.ntmps63;go_wp2_with fail
 go_ret
 exact⟨rfl,Below.refl _ _⟩
theorem Pk (w:World):CR 152 #[] w (.tuple #[.int .i64 6,.int .i64 81]):=by
 go_enter Tryz.func152,Tryz.ntmps152;go_wp2_with fail
 go_ret2
 exact⟨rfl,Below.refl _ _⟩
theorem Ol (w:World):CR 143 #[] w (.tuple #[.int .i64 6,.int .i64 81]):=by
 go_enter Tryz.func143,Tryz.ntmps143;go_wp2_with fail
 go_ret2
 exact⟨rfl,Below.refl _ _⟩
end
end Go.Proofs.YtmiilfnchfdfcaaGreatDoor
