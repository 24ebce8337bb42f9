/- By: Regs. -/
import Derived.Test.YtmiilfnchfdfcaaGreatDoorProg
import Derived.Test.YtmiilfnchfdfcaaGreatDoorByPlain1
import Derived.Deep.RegionHeld3
import Derived.Maps.OwnIn
import Derived.Maps.Views
import Derived.OrdersHeld
import Derived.RegionTactic
import Derived.TacticsIn
import Derived.StillTail
import Derived.Deep.Quiet
set_option maxRecDepth 100000
set_option maxHeartbeats 40000000
namespace Go.Proofs.YtmiilfnchfdfcaaGreatDoor
section
theorem mixed:Tryz.prog.follows .mixedOrders=true:=by kernel_rfl
set_option linter.unusedVariables false
open Go.RowKit Go.Shelf
theorem cell_kept {X Y:World}{row:Option Nat}{a:Addr}{v:Value}(h:X.cell? a=some v)(hg:X.grownBy Y row)(hr:∀r,row=some r->∃o:Obj,X.heap[r]? =some o/\o.isCells=false):Y.cell? a=some v:=by
 have hb:Y.heap[a.block]? =X.heap[a.block]? :=hg.block a.block (AZ h) (fun e=>by
  obtain⟨o,ho,hc⟩:=hr a.block e.symm;simp only[World.cell?,ho]at h;cases o<;>simp_all [Obj.isCells])
 simp only[World.cell?,hb]at h ⊢;exact h
theorem Cells.kept {X Y:World}{row:Option Nat}{A:Option Addr}{cs:List Value}(h:Cells X A cs)(hg:X.grownBy Y row)(hr:∀r,row=some r->∃o:Obj,X.heap[r]? =some o/\o.isCells=false):Cells Y A cs:=by
 rcases h with h|⟨b,off,e,hc⟩
 · exact .inl h
 · exact .inr ⟨b,off,e,fun j u hu=>cell_kept (hc j u hu) hg hr⟩
theorem IsDk.kept {X Y:World}{row:Option Nat}{D:Dk}{p q:Pl}(h:IsDk X D p q)(hg:X.grownBy Y row)(hr:∀r,row=some r->∃o:Obj,X.heap[r]? =some o/\o.isCells=false):IsDk Y D p q:=
 {h with cache:=h.cache.kept hg hr,bad:=h.bad.kept hg hr}
theorem IsPn.kept {X Y:World}{row:Option Nat}{L:Pn}{p q:Pl}(h:IsPn X L p q)(hg:X.grownBy Y row)(hr:∀r,row=some r->∃o:Obj,X.heap[r]? =some o/\o.isCells=false):IsPn Y L p q:=
 {h with targets:=h.targets.kept hg hr,data:=h.data.kept hg hr}
theorem Ae {w:World}{g:Nat}{t:TypeId}{a b:Value}(h:Blk w g t #[a,b])(u v:Value):Blk ((w.setCell ⟨g,0,none⟩ u).setCell ⟨g,1,none⟩ v) g t #[u,v]:=by
 have:=(h.set 0 u).set 1 v;simpa using this
theorem AP {w:World}{g k:Nat}{t:TypeId}{cs:Array Value}(h:Blk w k t cs)(hk:k≠g)(u v:Value):Blk ((w.setCell ⟨g,0,none⟩ u).setCell ⟨g,1,none⟩ v) k t cs:=
 (h.other (a:=⟨g,0,none⟩) hk u).other (a:=⟨g,1,none⟩) hk v
theorem Yk {B:Nat}{u W:World}{g:Nat}{v0 v1:Value}{k:Nat}{t:TypeId}{cs:Array Value}(h:Blk W k t cs)(hb:Below B u ((W.setCell ⟨g,0,none⟩ v0).setCell ⟨g,1,none⟩ v1))(hk:k≠g:=by omega):Blk ((W.setCell ⟨g,0,none⟩ v0).setCell ⟨g,1,none⟩ v1) k t cs:=AP h hk v0 v1
theorem Yl {B:Nat}{u W:World}{g:Nat}{v0 v1:Value}{t:TypeId}{a0 a1:Value}(h:Blk W g t #[a0,a1])(hb:Below B u ((W.setCell ⟨g,0,none⟩ v0).setCell ⟨g,1,none⟩ v1)):Blk ((W.setCell ⟨g,0,none⟩ v0).setCell ⟨g,1,none⟩ v1) g t #[v0,v1]:=Ae h v0 v1
theorem Af {B:Nat}{w0 w:World}{g:Nat}(h:Below B w0 w)(hg:B<=g)(u v:Value):Below B w0 ((w.setCell ⟨g,0,none⟩ u).setCell ⟨g,1,none⟩ v):=
 (h.setCell (p:=⟨g,0,none⟩) hg u).setCell (p:=⟨g,1,none⟩) hg v
theorem Yk2 {U W:World}{g:Nat}{t t':TypeId}{a0 a1 v0 v1:Value}(x:Blk W g t #[a0,a1])(y:Blk U g t' #[v0,v1]):W.frozen? ⟨g,0,none⟩=false/\W.cell? ⟨g,0,none⟩=some a0/\(W.setCell ⟨g,0,none⟩ v0).frozen? ⟨g,1,none⟩=false/\(W.setCell ⟨g,0,none⟩ v0).cell? ⟨g,1,none⟩=some a1:=by
 have c0:=x;have c1:=c0.set 0 v0;simp only[List.setIfInBounds_toArray,List.set_cons_zero,List.set_cons_succ]at c1;exact⟨c0.frozen 0,c0.cell 0,c1.frozen 1,c1.cell 1⟩
theorem Ym2 {B:Nat}{u W:World}{g:Nat}{v0 v1:Value}{t:TypeId}{cs:Array Value}(h:Below B u W)(y:Blk ((W.setCell ⟨g,0,none⟩ v0).setCell ⟨g,1,none⟩ v1) g t cs)(hg:B<=g:=by omega):Below B u ((W.setCell ⟨g,0,none⟩ v0).setCell ⟨g,1,none⟩ v1):=Af h hg v0 v1
theorem IsPn.off2 {w:World}{L:Pn}{p q:Pl}(h:IsPn w L p q){g:Nat}(ho:PnOff g L p q)(u v:Value):IsPn ((w.setCell ⟨g,0,none⟩ u).setCell ⟨g,1,none⟩ v) L p q:=
 (h.off (a:=⟨g,0,none⟩) ho u).off (a:=⟨g,1,none⟩) ho v
theorem IsPn.oa {B:Nat}{u W:World}{g:Nat}{v0 v1:Value}{D:Pn}{p q:Pl}(h:IsPn W D p q)(hb:Below B u ((W.setCell ⟨g,0,none⟩ v0).setCell ⟨g,1,none⟩ v1))(ho:PnOff g D p q:=by first|assumption|omega):IsPn ((W.setCell ⟨g,0,none⟩ v0).setCell ⟨g,1,none⟩ v1) D p q:=h.off2 ho v0 v1
theorem IsPn.off5 {w:World}{L:Pn}{p q:Pl}(h:IsPn w L p q){g:Nat}(ho:PnOff g L p q)(v0 v1 v2 v3 v4:Value):
 IsPn (((((w.setCell ⟨g,0,none⟩ v0).setCell ⟨g,1,none⟩ v1).setCell ⟨g,2,none⟩ v2).setCell ⟨g,3,none⟩ v3).setCell ⟨g,4,none⟩ v4) L p q:=
 ((((h.off (a:=⟨g,0,none⟩) ho v0).off (a:=⟨g,1,none⟩) ho v1).off (a:=⟨g,2,none⟩) ho v2).off (a:=⟨g,3,none⟩) ho v3).off (a:=⟨g,4,none⟩) ho v4
theorem IsPn.ob {B:Nat}{u W:World}{g:Nat}{v0 v1 v2 v3 v4:Value}{D:Pn}{p q:Pl}(h:IsPn W D p q)(hb:Below B u (((((W.setCell ⟨g,0,none⟩ v0).setCell ⟨g,1,none⟩ v1).setCell ⟨g,2,none⟩ v2).setCell ⟨g,3,none⟩ v3).setCell ⟨g,4,none⟩ v4))(ho:PnOff g D p q:=by first|assumption|omega):IsPn (((((W.setCell ⟨g,0,none⟩ v0).setCell ⟨g,1,none⟩ v1).setCell ⟨g,2,none⟩ v2).setCell ⟨g,3,none⟩ v3).setCell ⟨g,4,none⟩ v4) D p q:=h.off5 ho v0 v1 v2 v3 v4
theorem IsDk.off2 {w:World}{D:Dk}{p q:Pl}(h:IsDk w D p q){g:Nat}(ho:DkOff g D p q)(u v:Value):IsDk ((w.setCell ⟨g,0,none⟩ u).setCell ⟨g,1,none⟩ v) D p q:=
 (h.off (a:=⟨g,0,none⟩) ho u).off (a:=⟨g,1,none⟩) ho v
theorem IsDk.oa {B:Nat}{u W:World}{g:Nat}{v0 v1:Value}{D:Dk}{p q:Pl}(h:IsDk W D p q)(hb:Below B u ((W.setCell ⟨g,0,none⟩ v0).setCell ⟨g,1,none⟩ v1))(ho:DkOff g D p q:=by first|assumption|omega):IsDk ((W.setCell ⟨g,0,none⟩ v0).setCell ⟨g,1,none⟩ v1) D p q:=h.off2 ho v0 v1
theorem IsDk.off5 {w:World}{D:Dk}{p q:Pl}(h:IsDk w D p q){g:Nat}(ho:DkOff g D p q)(v0 v1 v2 v3 v4:Value):
 IsDk (((((w.setCell ⟨g,0,none⟩ v0).setCell ⟨g,1,none⟩ v1).setCell ⟨g,2,none⟩ v2).setCell ⟨g,3,none⟩ v3).setCell ⟨g,4,none⟩ v4) D p q:=
 ((((h.off (a:=⟨g,0,none⟩) ho v0).off (a:=⟨g,1,none⟩) ho v1).off (a:=⟨g,2,none⟩) ho v2).off (a:=⟨g,3,none⟩) ho v3).off (a:=⟨g,4,none⟩) ho v4
theorem IsDk.ob {B:Nat}{u W:World}{g:Nat}{v0 v1 v2 v3 v4:Value}{D:Dk}{p q:Pl}(h:IsDk W D p q)(hb:Below B u (((((W.setCell ⟨g,0,none⟩ v0).setCell ⟨g,1,none⟩ v1).setCell ⟨g,2,none⟩ v2).setCell ⟨g,3,none⟩ v3).setCell ⟨g,4,none⟩ v4))(ho:DkOff g D p q:=by first|assumption|omega):IsDk (((((W.setCell ⟨g,0,none⟩ v0).setCell ⟨g,1,none⟩ v1).setCell ⟨g,2,none⟩ v2).setCell ⟨g,3,none⟩ v3).setCell ⟨g,4,none⟩ v4) D p q:=h.off5 ho v0 v1 v2 v3 v4
theorem Db {w:World}{b b':Nat}{e e':TypeId}{s s' n n':Nat}{v v':Value}{xs xs':List Value}(h:w.ownsRow b e s v n xs)(h':w.ownsRow b' e' s' v' n' xs')(hne:e≠e'):v.ownBlock=none\/v.ownBlock≠v'.ownBlock:=by
 rcases h.2 with ⟨rfl,_⟩|⟨g,cap,cur,rfl,_,h3,_⟩
 · exact .inl rfl
 · right
   intro hh
   rcases h'.2 with ⟨rfl,_⟩|⟨g',cap',cur',rfl,_,h4,_⟩
   · cases hh
   · injection hh with hh
     have hh:g=g':=hh;subst hh;rw[h3]at h4;injection h4 with h4
     injection h4 with _ h4
     exact hne h4
theorem Bg {w:World}{b:Nat}{e t:TypeId}{s n g:Nat}{v:Value}{xs:List Value}{cs:Array Value}(h:w.ownsRow b e s v n xs)(hb:Blk w g t cs)(hne:t≠e):some g≠v.ownBlock:=by
 intro hh
 rcases h.2 with ⟨rfl,_⟩|⟨g',cap,cur,rfl,_,h3,_⟩
 · cases hh
 · injection hh with hh
   have hh:g=g':=hh;subst hh;rw[show w.heap[g]? =_ from hb]at h3;injection h3 with h3
   injection h3 with _ h3
   exact hne h3
theorem DC (w:World)(o:Obj)(t:TypeId)(cs:Array Value):Blk ((w.alloc o).alloc (.cells cs t)) (w.heap.size+1) t cs:=by
 have:=Blk.new (w.alloc o) t cs
 rwa [World.size_alloc]at this
theorem i64w {x:Int}(h: -9223372036854775808<=x/\x<=9223372036854775807):IntKind.i64.wrap x=x:=by simp[IntKind.wrap,IntKind.bits,IntKind.signed];omega
theorem u64w {x:Int}(h:0<=x/\x<=18446744073709551615):IntKind.u64.wrap x=x:=by simp[IntKind.wrap,IntKind.bits,IntKind.signed];omega
theorem Bk {w W W':World}{a0 a1 a2 a3 a4 a5 a6:Addr}{v0 v1 v2 v3 v4 v5 v6:Value}
 (h:(W.cell? a0=some v0/\W.cell? a1=some v1/\W.cell? a2=some v2/\W.cell? a3=some v3/\W.cell? a4=some v4)/\(W.cell? a5=some v5/\W.cell? a6=some v6)/\Below w.heap.size w W) (hb:Below W.heap.size W W'):
 (W'.cell? a0=some v0/\W'.cell? a1=some v1/\W'.cell? a2=some v2/\W'.cell? a3=some v3/\W'.cell? a4=some v4)/\(W'.cell? a5=some v5/\W'.cell? a6=some v6)/\Below w.heap.size w W':=by
 obtain⟨⟨h0,h1,h2,h3,h4⟩,⟨h5,h6⟩,hB⟩:=h;exact⟨⟨Av hb h0,Av hb h1,Av hb h2,Av hb h3,Av hb h4⟩,⟨Av hb h5,Av hb h6⟩,bt hB hb⟩
theorem KC {w W:World}{b0 b1 o0 o1 o2 o3 o4 o5 o6:Nat}{v0 v1 v2 v3 v4 v5 v6:Value}
 (h:(W.cell? ⟨b0,o0,none⟩=some v0/\W.cell? ⟨b0,o1,none⟩=some v1/\W.cell? ⟨b0,o2,none⟩=some v2/\W.cell? ⟨b0,o3,none⟩=some v3/\W.cell? ⟨b0,o4,none⟩=some v4)/\(W.cell? ⟨b1,o5,none⟩=some v5/\W.cell? ⟨b1,o6,none⟩=some v6)/\Below w.heap.size w W)
 {g:Nat} (g0:b0≠g) (g1:b1≠g) (hg:w.heap.size<=g) (u v:Value):
 (((W.setCell ⟨g,0,none⟩ u).setCell ⟨g,1,none⟩ v).cell? ⟨b0,o0,none⟩=some v0/\((W.setCell ⟨g,0,none⟩ u).setCell ⟨g,1,none⟩ v).cell? ⟨b0,o1,none⟩=some v1/\((W.setCell ⟨g,0,none⟩ u).setCell ⟨g,1,none⟩ v).cell? ⟨b0,o2,none⟩=some v2/\((W.setCell ⟨g,0,none⟩ u).setCell ⟨g,1,none⟩ v).cell? ⟨b0,o3,none⟩=some v3/\((W.setCell ⟨g,0,none⟩ u).setCell ⟨g,1,none⟩ v).cell? ⟨b0,o4,none⟩=some v4)/\
 (((W.setCell ⟨g,0,none⟩ u).setCell ⟨g,1,none⟩ v).cell? ⟨b1,o5,none⟩=some v5/\((W.setCell ⟨g,0,none⟩ u).setCell ⟨g,1,none⟩ v).cell? ⟨b1,o6,none⟩=some v6)/\Below w.heap.size w ((W.setCell ⟨g,0,none⟩ u).setCell ⟨g,1,none⟩ v):=by
 obtain⟨⟨h0,h1,h2,h3,h4⟩,⟨h5,h6⟩,hB⟩:=h;have k:∀(b o:Nat)(x:Value),b≠g->W.cell? ⟨b,o,none⟩=some x->((W.setCell ⟨g,0,none⟩ u).setCell ⟨g,1,none⟩ v).cell? ⟨b,o,none⟩=some x:=fun b o x hb h=>by
  rw[World.cell?_setCell_other _ _ _ _ (by intro e;injection e with e;exact hb e.symm),World.cell?_setCell_other _ _ _ _ (by intro e;injection e with e;exact hb e.symm)];exact h
 exact⟨⟨k _ _ _ g0 h0,k _ _ _ g0 h1,k _ _ _ g0 h2,k _ _ _ g0 h3,k _ _ _ g0 h4⟩,⟨k _ _ _ g1 h5,k _ _ _ g1 h6⟩,Af hB hg u v⟩
end
section
open Go.RowKit Go.Shelf Go.Maps
def seenD (l:List Int):DataW Unit:=l.foldl (fun D x=>D.put (.int .i64 x) (.lit (.bool true))) (.map [])
theorem N9 (l:List Int)(x:Int):seenD (l++[x])=(seenD l).put (.int .i64 x) (.lit (.bool true)):=by simp[seenD]
theorem KN {D:DataW Unit}(h:IsMap D)(k:Lit)(d:DataW Unit):IsMap (D.put k d):=by
 obtain⟨es,rfl⟩:=h;exact⟨_,rfl⟩
theorem N8 (l:List Int)(x:Int):(seenD l).atKey (.int .i64 x) (.lit (.bool false))=.lit (.bool (decide (x∈l))):=by
 suffices h:∀(l:List Int)(D:DataW Unit)(s:List Int),IsMap D->D.atKey (.int .i64 x) (.lit (.bool false))=.lit (.bool (decide (x∈s)))->
  (l.foldl (fun D x=>D.put (.int .i64 x) (.lit (.bool true))) D).atKey (.int .i64 x) (.lit (.bool false))=.lit (.bool (decide (x∈s++l))) by
  have:=h l (.map []) [] isMap_empty (by simp[DataW.atKey]);unfold seenD;simpa using this
 intro l
 induction l with
 |nil=>intro D s _ h;simpa using h
 |cons a l ih=>
  intro D s hD h;have:=ih (D.put (.int .i64 a) (.lit (.bool true))) (s++[a]) (KN hD _ _) (by
   by_cases e:x=a
   · subst e;rw[atKey_put_same hD (by simp[WideAt.IsKeyLit])];simp
   · rw[atKey_put_other (by intro h;injection h with _ h;exact e h),h];simp[e])
  simpa using this
def Seen (P:Program)(ti tb:TypeId)(W:World)(b n:Nat)(l:List Int):Prop:=W.ownsMap (H:=Unit) P ti (plainElem P tb) b n (seenD l)
section
variable {P:Program} {ti tb tm:TypeId} {W W':World} {b n:Nat} {l:List Int}
theorem Seen.look (h:Seen P ti tb W b n l)(hi:P.underlying ti=some (.int .i64))(hb:P.underlying tb=some .bool)(hm:P.underlying tm=some (.map ti tb))(hz:(zeroValue tb).run P W=.ok (.bool false) W)
 {x:Int} (hx:(Lit.int .i64 x).wf=true):(Instr.lookup tm (.map (some b)) (.int .i64 x) false).run P W=.ok (.bool (decide (x∈l))) W:=by
 obtain⟨v,ps,hrun,hv⟩:=World.ownsMap.lookup h (int_keyed hi) hm hz (plainElem_bool (H:=Unit) hb false) (keyOf_int_mk hi hx);rw[hrun];have e:v=.bool (decide (x∈l)):=by
  have hat:=N8 l x;unfold plainElem at hv;rw[hb]at hv;cases v with
  |bool c=>
   simp only[Option.some.injEq,Prod.mk.injEq]at hv;have:=hv.1;rw[hat]at this;injection this with this
   injection this with this
   rw[this]
  |_=>simp at hv
 rw[e]
theorem Seen.at_ (h:Seen P ti tb W b n l)(hk:W'.heap[b]? =W.heap[b]?):Seen P ti tb W' b n l:=by
 obtain⟨es,c,hb,r⟩:=h;exact⟨es,c,hk.trans hb,r⟩
end
end
section
open Go
section
variable {P:Program} {ops:Array Oper} {Q:Exit->Act->World->Prop} {md:Region.Mode} {S:World->Prop} {late:Nat->Bool}
def wpLate (P:Program)(md:Region.Mode)(ops:Array Oper)(Q:Exit->Act->World->Prop)(S:World->Prop)(late:Nat->Bool):Nat->Array Bool->Act->World->Prop
 |0,listed,a,w=>Region.ready md ops listed=[]/\Q .normal a w
 |fuel+1,listed,a,w=>
  (Region.ready md ops listed=[]->Q .normal a w)/\
  ∀i∈Region.ready md ops listed,wpOp P ops Q i (fun a' w'=>(late i=false->S w->S w')/\wpLate P md ops Q S late fuel (listed.setIfInBounds i true) a' w') a w
theorem CE:∀(fuel:Nat)(listed:Array Bool)(a:Act)(w:World),wpLate P md ops Q S late fuel listed a w->wpAny P md ops Q fuel listed a w
 |0,_,_,_,h=>h
 |fuel+1,_,_,_,h=>⟨h.1,fun i hi=>wpOp_mono (fun a' w' h'=>CE fuel _ a' w' h'.2) (h.2 i hi)⟩
def waitFor (md:Region.Mode)(ops:Array Oper)(late:Nat->Bool)(i:Nat):Bool:=
 (List.range ops.size).all fun j=>!late j||match ops[j]? with
  |some oj=>oj.after.any fun e=>Region.binds md e&&e.on==i
  |none=>true
theorem PG {i:Nat}(h:waitFor md ops late i=true){j:Nat}{oj:Oper}(hj:ops[j]? =some oj)(hno:∀e∈oj.after,Region.binds md e=true->e.on≠i):late j=false:=by
 simp only[waitFor,List.all_eq_true,List.mem_range]at h;have h1:=h j (Array.getElem?_eq_some_iff.1 hj).1;simp only[hj,Bool.or_eq_true,Bool.not_eq_true']at h1
 rcases h1 with h1|h1
 · exact h1
 · obtain⟨e,he,hb⟩:=Array.any_eq_true'.1 h1;simp only[Bool.and_eq_true,beq_iff_eq]at hb;exact absurd hb.2 (hno e he hb.1)
theorem PM {i:Nat}{oi:Oper}{v:Value}(hi:ops[i]? =some oi)(hsel:∀(j:Nat)(o:Oper) cs b,ops[j]? =some o->o.op≠.select cs b)
 (hQ:∀c a w,Q (.panic c) (a.put oi.dst v) w->Q (.panic c) a w) (hlate:waitFor md ops late i=true):
 ∀(fuel:Nat)(listed:Array Bool)(a:Act)(w:World),
  (∀j oj,ops[j]? =some oj->j≠i->listed.getD j true=false->(∀e∈oj.after,Region.binds md e=true->e.on≠i)->oi.apart ops oj=true)->
  i∈Region.ready md ops listed->YieldsIf P ops S oi v a->S w->
  wpLate P md ops Q S late fuel (listed.setIfInBounds i true) (a.put oi.dst v) w->wpLate P md ops Q S late (fuel+1) listed a w:=by
 intro fuel
 induction fuel with
 |zero=>
  intro listed a w _ hr hy hS H;refine⟨fun h=>(by rw[h]at hr;cases hr),fun j hj=>?_⟩;by_cases hji:j=i
  · subst hji;exact hy.wpOp hi hS ⟨fun _ h=>h,H⟩
  · have:=ready_mono hj hji;rw[H.1]at this;cases this
 |succ fuel ih=>
  intro listed a w hfree hr hy hS H;refine⟨fun h=>(by rw[h]at hr;cases hr),fun j hj=>?_⟩;by_cases hji:j=i
  · subst hji;exact hy.wpOp hi hS ⟨fun _ h=>h,H⟩
  · have h1:=H.2 j (ready_mono hj hji);obtain⟨hjun,oj,hoj,hall⟩:=mem_ready.1 hj;have hnot:∀e∈oj.after,Region.binds md e=true->e.on≠i:=fun e he hb heq=>by
     have h1:=hall e he hb;have h0:=(mem_ready.1 hr).1;rw[heq]at h1
     rcases Nat.lt_or_ge i listed.size with h'|h'
     · simp[h']at h0 h1;rw[h0]at h1;cases h1
     · simp[Array.getElem?_eq_none h']at h1
    have hjl:=PG hlate hoj hnot;have h2:=wpOp_putIf hoj (hfree j oj hoj hji hjun hnot) (fun cs b=>hsel i oi cs b hi) (fun cs b=>hsel j oj cs b hoj) hQ hy h1;have hfree':∀k ok,ops[k]? =some ok->k≠i->(listed.setIfInBounds j true).getD k true=false->
     (∀e∈ok.after,Region.binds md e=true->e.on≠i)->oi.apart ops ok=true:=fun k ok hk hki hun hno=>by
     refine hfree k ok hk hki ?_ hno;by_cases hjk:j=k
     · subst hjk;exact hjun
     · rw[getD_set_ne true hjk]at hun;exact hun
    refine wpOp_mono (fun a' w' h3=>⟨h3.2.1,ih (listed.setIfInBounds j true) a' w' hfree' (ready_mono hr (Ne.symm hji)) h3.1 (h3.2.1 hjl hS) ?_⟩) h2;rw[Array.setIfInBounds_comm _ _ hji];exact h3.2.2
theorem EG {i:Nat}{oi:Oper}{v:Value}(hi:ops[i]? =some oi)(hsel:∀(j:Nat)(o:Oper) cs b,ops[j]? =some o->o.op≠.select cs b)
 (hQ:∀c a w,Q (.panic c) (a.put oi.dst v) w->Q (.panic c) a w):
 ∀(fuel:Nat)(listed:Array Bool)(a:Act)(w:World),
  (∀j oj,ops[j]? =some oj->j≠i->listed.getD j true=false->(∀e∈oj.after,Region.binds md e=true->e.on≠i)->oi.apart ops oj=true)->
  i∈Region.ready md ops listed->YieldsIf P ops (fun _=>True) oi v a->
  wpLate P md ops Q S late fuel (listed.setIfInBounds i true) (a.put oi.dst v) w->wpLate P md ops Q S late (fuel+1) listed a w:=by
 intro fuel
 induction fuel with
 |zero=>
  intro listed a w _ hr hy H;refine⟨fun h=>(by rw[h]at hr;cases hr),fun j hj=>?_⟩;by_cases hji:j=i
  · subst hji;exact hy.wpOp hi trivial ⟨fun _ h=>h,H⟩
  · have:=ready_mono hj hji;rw[H.1]at this;cases this
 |succ fuel ih=>
  intro listed a w hfree hr hy H;refine⟨fun h=>(by rw[h]at hr;cases hr),fun j hj=>?_⟩;by_cases hji:j=i
  · subst hji;exact hy.wpOp hi trivial ⟨fun _ h=>h,H⟩
  · have h1:=H.2 j (ready_mono hj hji);obtain⟨hjun,oj,hoj,hall⟩:=mem_ready.1 hj;have hnot:∀e∈oj.after,Region.binds md e=true->e.on≠i:=fun e he hb heq=>by
     have h1:=hall e he hb;have h0:=(mem_ready.1 hr).1;rw[heq]at h1
     rcases Nat.lt_or_ge i listed.size with h'|h'
     · simp[h']at h0 h1;rw[h0]at h1;cases h1
     · simp[Array.getElem?_eq_none h']at h1
    have h2:=wpOp_putIf hoj (hfree j oj hoj hji hjun hnot) (fun cs b=>hsel i oi cs b hi) (fun cs b=>hsel j oj cs b hoj) hQ hy h1;have hfree':∀k ok,ops[k]? =some ok->k≠i->(listed.setIfInBounds j true).getD k true=false->
     (∀e∈ok.after,Region.binds md e=true->e.on≠i)->oi.apart ops ok=true:=fun k ok hk hki hun hno=>by
     refine hfree k ok hk hki ?_ hno;by_cases hjk:j=k
     · subst hjk;exact hjun
     · rw[getD_set_ne true hjk]at hun;exact hun
    refine wpOp_mono (fun a' w' h3=>⟨h3.2.1,ih (listed.setIfInBounds j true) a' w' hfree' (ready_mono hr (Ne.symm hji)) h3.1 ?_⟩) h2;rw[Array.setIfInBounds_comm _ _ hji];exact h3.2.2
theorem PO {i:Nat}{oi:Oper}{v:Value}{d:Option Tmp}{fuel:Nat}{listed:Array Bool}{a:Act}{w:World}(hi:ops[i]? =some oi)(hd:oi.dst=d)
 (hs:Region.noSelect ops=true) (hf:Region.free md ops listed i=true) (hr:(Region.ready md ops listed).contains i=true)
 (hlate:waitFor md ops late i=true)
 (hQ:∀c a w,Q (.panic c) (a.put d v) w->Q (.panic c) a w) (hg:oi.guard=none) (hy:∀w,S w->(execOp a.eval oi).run P w=.ok (.value v) w) (hS:S w)
 (h:wpLate P md ops Q S late fuel (listed.setIfInBounds i true) (a.put d v) w):wpLate P md ops Q S late (fuel+1) listed a w:=
 by
 subst hd;exact PM hi (Region.noSelect_spec hs) hQ hlate fuel listed a w (Region.free_spec hi hf) (by simpa using hr) (.inl ⟨by simp[Region.wanted,hg],hy⟩) hS h
theorem PP {i:Nat}{oi:Oper}{v:Value}{d:Option Tmp}{fuel:Nat}{listed:Array Bool}{a:Act}{w:World}(hi:ops[i]? =some oi)(hd:oi.dst=d)
 (hs:Region.noSelect ops=true) (hf:Region.free md ops listed i=true) (hr:(Region.ready md ops listed).contains i=true)
 (hQ:∀c a w,Q (.panic c) (a.put d v) w->Q (.panic c) a w) (hg:oi.guard=none) (hy:∀w,(execOp a.eval oi).run P w=.ok (.value v) w)
 (h:wpLate P md ops Q S late fuel (listed.setIfInBounds i true) (a.put d v) w):wpLate P md ops Q S late (fuel+1) listed a w:=
 by
 subst hd;exact EG hi (Region.noSelect_spec hs) hQ fuel listed a w (Region.free_spec hi hf) (by simpa using hr) (.inl ⟨by simp[Region.wanted,hg],fun w _=>hy w⟩) h
theorem PN {i:Nat}{o:Oper}{fuel:Nat}{listed:Array Bool}{a:Act}{w₀:World}(hr:Region.ready md ops listed=[i])(ho:ops[i]? =some o)(hg:o.guard=none)
 (h:∀K':Act->World->Prop,(∀a w,(late i=false->S w₀->S w)->wpLate P md ops Q S late fuel (listed.setIfInBounds i true) a w->K' a w)->o.wp P a w₀ K' Q):wpLate P md ops Q S late (fuel+1) listed a w₀:=
 ⟨fun h0=>(by rw[hr]at h0;cases h0),fun j hj=>by
  rw[hr]at hj;rw[List.mem_singleton.1 hj];refine wpOp_step ho fun K' hK=>?_
  rw[if_pos (by simp[Region.wanted,hg])];exact h K' fun a w h1 h2=>hK a w ⟨h1,h2⟩⟩
theorem Yt (i:Nat)(d:Tmp)(v:Value){oi:Oper}{fuel:Nat}{listed:Array Bool}{a:Act}{w:World}
 (h:wpLate P md ops Q S late fuel (listed.setIfInBounds i true) (a.put (some d) v) w) (hi:ops[i]? =some oi:=by exact rfl) (hd:oi.dst=some d:=by exact rfl)
 (hs:Region.noSelect ops=true:=by kernel_rfl) (hf:Region.free md ops listed i=true:=by kernel_rfl) (hr:(Region.ready md ops listed).contains i=true:=by kernel_rfl)
 (hQ:∀c a w,Q (.panic c) (a.put (some d) v) w->Q (.panic c) a w:=by exact fun _ _ _ h=>h) (hg:oi.guard=none:=by exact rfl) (hy:∀w,(execOp a.eval oi).run P w=.ok (.value v) w:=by intro W;first|rfl|go_simp):
 wpLate P md ops Q S late (fuel+1) listed a w:=PP hi hd hs hf hr hQ hg hy h
theorem Yu (i:Nat)(d:Option Tmp)(v:Value){oi:Oper}{fuel:Nat}{listed:Array Bool}{a:Act}{w:World}
 (hi:ops[i]? =some oi) (hy:∀w,S w->(execOp a.eval oi).run P w=.ok (.value v) w) (hS:S w) (h:wpLate P md ops Q S late fuel (listed.setIfInBounds i true) (a.put d v) w) (hd:oi.dst=d:=by exact rfl)
 (hs:Region.noSelect ops=true:=by kernel_rfl) (hf:Region.free md ops listed i=true:=by kernel_rfl) (hr:(Region.ready md ops listed).contains i=true:=by kernel_rfl)
 (hlate:waitFor md ops late i=true:=by kernel_rfl) (hQ:∀c a w,Q (.panic c) (a.put d v) w->Q (.panic c) a w:=by exact fun _ _ _ h=>h) (hg:oi.guard=none:=by exact rfl):
 wpLate P md ops Q S late (fuel+1) listed a w:=PO hi hd hs hf hr hlate hQ hg hy hS h
theorem Yo (i:Nat){o:Oper}{fuel:Nat}{listed:Array Bool}{a:Act}{w₀:World}
 (h:∀K':Act->World->Prop,(∀a w,(late i=false->S w₀->S w)->wpLate P md ops Q S late fuel (listed.setIfInBounds i true) a w->K' a w)->o.wp P a w₀ K' Q) (hr:Region.ready md ops listed=[i]:=by kernel_rfl) (ho:ops[i]? =some o:=by exact rfl) (hg:o.guard=none:=by exact rfl):
 wpLate P md ops Q S late (fuel+1) listed a w₀:=PN hr ho hg h
theorem AG {i k:Nat}{o o':Oper}{fuel:Nat}{listed:Array Bool}{a:Act}{w₀:World}(hr:Region.ready md ops listed=[i,k])(ho:ops[i]? =some o)(hg:o.guard=none)(ho':ops[k]? =some o')(hg':o'.guard=none)
 (h:∀K':Act->World->Prop,(∀a w,(late i=false->S w₀->S w)->wpLate P md ops Q S late fuel (listed.setIfInBounds i true) a w->K' a w)->o.wp P a w₀ K' Q)
 (h':∀K':Act->World->Prop,(∀a w,(late k=false->S w₀->S w)->wpLate P md ops Q S late fuel (listed.setIfInBounds k true) a w->K' a w)->o'.wp P a w₀ K' Q):wpLate P md ops Q S late (fuel+1) listed a w₀:=
 ⟨fun h0=>(by rw[hr]at h0;cases h0),fun j hj=>by
  rw[hr]at hj
  rcases List.mem_cons.1 hj with hj|hj
  · rw[hj];refine wpOp_step ho fun K' hK=>?_
    rw[if_pos (by simp[Region.wanted,hg])];exact h K' fun a w h1 h2=>hK a w ⟨h1,h2⟩
  · rw[List.mem_singleton.1 hj];refine wpOp_step ho' fun K' hK=>?_
    rw[if_pos (by simp[Region.wanted,hg'])];exact h' K' fun a w h1 h2=>hK a w ⟨h1,h2⟩⟩
theorem Ar {listed:Array Bool}{a:Act}{w:World}(hr:Region.ready md ops listed=[])(h:Q .normal a w):∀fuel,wpLate P md ops Q S late fuel listed a w
 |0=>⟨hr,h⟩
 |_+1=>⟨fun _=>h,by rw[hr];simp⟩
theorem AT {id:Nat}{a:Act}{w:World}(hm:P.follows .mixedOrders=true)
 (h:wpLate P .any ops Q S late ops.size (Array.replicate ops.size false) a w.drew):(Code.region id ops true).wp P Q a w:=
 wp_region_any hm (CE _ _ _ _ h)
theorem An {o:Oper}{a:Act}{w w':World}{v:Value}{K:Act->World->Prop}(hr:(execOp a.eval o).run P w=.ok (.value v) w')(h:K (a.put o.dst v) w'):o.wp P a w K Q:=by
 simp only[Oper.wp,hr,Oper.upon];exact h
theorem Aw {o:Oper}{a:Act}{w w':World}{K:Act->World->Prop}(hr:(execOp a.eval o).run P w=.ok .skip w')(h:K (a.put o.dst undef) w'):o.wp P a w K Q:=by
 simp only[Oper.wp,hr,Oper.upon];exact h
theorem Yq {o:Oper}{a:Act}{w w':World}{K:Act->World->Prop}{g:Nat}{t:TypeId}{cs:Array Value}(x:Blk w' g t cs)(hr:(execOp a.eval o).run P w=.ok .skip w')(h:K (a.put o.dst undef) w'):o.wp P a w K Q:=Aw hr h
end
end
section
open Go Go.RowKit Go.Shelf
def noDefer (ops:Array Oper):Bool:=ops.all fun o=>match o.op with
 | .defer _=>false
 |_=>true
theorem LD {ops:Array Oper}(h:noDefer ops=true){i:Nat}{o:Oper}(ho:ops[i]? =some o):∀c,o.op≠.defer c:=by
 intro c e;have:=Array.all_eq_true'.1 h o (Array.mem_of_getElem? ho);rw[e]at this;cases this
theorem PQ {n l0:Nat}{P:Program}{ops:Array Oper}{Q:Exit->Act->World->Prop}(hno:noDefer ops=true)(hQ:¬LetsOut Q):
 ∀(l:List Nat)(a:Act)(w:World),wpOps P ops Q l a w->wpOpsIn (Fence.wide.inRound l0) n P ops Q l a w:=by
 intro l
 induction l with
 |nil=>intro a w h;exact h
 |cons i rest ih=>
  intro a w h;unfold wpOps at h;unfold wpOpsIn;cases ho:ops[i]? with
  |none=>rw[ho]at h;exact ih _ _ h
  |some o=>
   rw[ho]at h;simp only at h ⊢;have hd:∀c,o.op≠.defer c:=LD hno ho
   split
   · rename_i hw
     rw[if_pos hw]at h
     rcases h with h|⟨_,h⟩
     · refine⟨fun _ _=>trivial,?_⟩;have e:o.semAt (Fence.wide.inRound l0).round a.eval=execOp a.eval o:=Oper.semAt_some l0 a.eval o hd;rw[e];unfold Oper.wp at h;generalize (execOp a.eval o).run P w=r at*;cases r with
       |ok x w'=>
        cases x with
        |value v=>exact ih _ _ h
        |skip=>exact ih _ _ h
        |defer d=>exact ih _ _ h
        |enter f args=>
         refine⟨fun hs=>(by cases hs),CallsIn.inRound l0 (callsIn_wide.2 (Calls.mono h fun e w'' he=>?_))⟩;cases e with
         |returned v=>exact ih _ _ he
         |panicked c=>exact he
         |outgrown=>exact he
        |row row args=>
         refine⟨fun hs=>(by cases hs),fun c cs _=>?_⟩;obtain⟨v,w'',hv,hs⟩:=h c cs;exact⟨v,w'',ih _ _ hv,stepsIn_wide.2 hs⟩
        |round _ _ _ _ _=>exact h.elim
        |_=>exact h.elim
       |halt x w'=>
        cases x<;>first|exact h|exact h.elim
     · exact absurd h hQ
   · rename_i hw
     rw[if_neg hw]at h;exact⟨fun _ _=>trivial,ih _ _ h⟩
theorem EF {n l0 id:Nat}{P:Program}{ops:Array Oper}{Q:Exit->Act->World->Prop}{a:Act}{w:World}(hm:P.follows .mixedOrders=true)(hno:noDefer ops=true)(hQ:¬LetsOut Q)
 (h:wpAny P .any ops Q ops.size (Array.replicate ops.size false) a {w with drawn:=w.drawn+1}):(Code.region id ops true).wpIn (Fence.wide.inRound l0) n P Q a w:=
 wpIn_region_draw fun t=>by
  simp only[Region.schedule,hm,Bool.true_or,if_true];exact PQ hno hQ _ a _ (wpAny_sound ops.size t _ a _ h)
theorem oper_enter' {P:Program}{Q:Exit->Act->World->Prop}{o:Oper}{a:Act}{w w':World}{f:FuncId}{args:Array Value}{K:Act->World->Prop}(hr:(execOp a.eval o).run P w=.ok (.enter f args) w')
 (h:Calls P f args w' fun e w''=>∃v,e=.returned v/\K (a.put o.dst v) w''):o.wp P a w K Q:=by
 simp only[Oper.wp,hr,Oper.upon];refine h.mono ?_;rintro e w'' ⟨v,rfl,hv⟩;exact hv
theorem LS {W W':World}{row:Option Nat}{B base size n c g:Nat}{e:TypeId}{xs:List Value}(h:W.ownsRow base e size (.slice (some ⟨g,0,none⟩) n c) n xs)(hy:W.grownBy W' row)
 (hr:∀r,row=some r->B<=r/\∃o:Obj,W.heap[r]? =some o/\o.isCells=false):W'.ownsRow base e size (.slice (some ⟨g,0,none⟩) n c) n xs:=by
 refine h.kept hy (.inr fun e'=>?_);obtain⟨_,o,ho,hc⟩:=hr g e'.symm
 rcases h.2 with ⟨h',_⟩|⟨g',cap',cur,h',_,hg,_⟩
 · cases h'
 · injection h' with h'
   injection h' with h'
   injection h' with h'
   subst h';rw[hg]at ho;cases ho
   cases hc
theorem Dc {W W':World}{base size n g c:Nat}{e:TypeId}{xs:List Value}(h:W.ownsRow base e size (.slice (some ⟨g,0,none⟩) n c) n xs)(hb:Below W.heap.size W W'):W'.ownsRow base e size (.slice (some ⟨g,0,none⟩) n c) n xs:=
 h.kept (row:=none) ⟨hb.os,hb.tape,hb.output,hb.size,fun k hk _=>hb.block k hk⟩ (.inr (by simp[Value.ownBlock]))
theorem Cs {W:World}{base size n g c k:Nat}{e t:TypeId}{xs:List Value}{cs:Array Value}(h:W.ownsRow base e size (.slice (some ⟨g,0,none⟩) n c) n xs)(hb:Blk W k t cs)(hne:t≠e):k≠g:=by
 rintro rfl
 rcases h.2 with ⟨h',_⟩|⟨g',cap',cur,h',_,hg,_⟩
 · cases h'
 · injection h' with h'
   injection h' with h'
   injection h' with h'
   subst h';rw[show W.heap[k]? =_ from hb]at hg;injection hg with hg
   injection hg with _ hg
   exact hne hg
section
variable {P:Program} {ops:Array Oper} {md:Region.Mode} {C:World->Prop}
def plainOp (o:Oper):Bool:=o.guard.isNone&&match o.op with
 | .move _| .assign _| .extract _ _=>true
 |_=>false
theorem Mf {Q:Exit->Act->World->Prop}{o:Oper}{a:Act}{w:World}{K:Act->World->Prop}(hp:plainOp o=true)
 (h:o.wp P a w K Q\/(o.asks P a w/\LetsOut Q)):∃v,(∀w,(execOp a.eval o).run P w=.ok (.value v) w)/\K (a.put o.dst v) w:=by
 simp only[plainOp,Bool.and_eq_true]at hp;obtain⟨_,hp⟩:=hp;obtain⟨d,op,ty,pos,af,gd⟩:=o;cases op<;>simp only at hp
 all_goals first|(cases hp;done)|skip
 · rename_i x _
   refine⟨a.eval x,fun w=>rfl,?_⟩
   rcases h with h|⟨h,_⟩
   · exact h
   · exact absurd (show noRoomEvent∈(#[]:Array Event)from h.1) (by simp)
 · rename_i x _
   refine⟨a.eval x,fun w=>rfl,?_⟩
   rcases h with h|⟨h,_⟩
   · exact h
   · exact absurd (show noRoomEvent∈(#[]:Array Event)from h.1) (by simp)
 · rename_i x i _
   have key:∀r:Value,a.eval x=r->(∃v,Instr.extract r i=pure v)\/∃m,Instr.extract r i=stuck m:=by
    intro r _;unfold Instr.extract
    split
    · split
      · exact .inl ⟨_,rfl⟩
      · exact .inr ⟨_,rfl⟩
    · exact .inr ⟨_,rfl⟩
   have hex:∀af',execOp a.eval {dst:=d,op:=.extract x i,type:=ty,pos:=pos,after:=af',guard:=gd}=(do pure (.value (<-Instr.extract (a.eval x) i))):=fun _=>rfl
   rcases key _ rfl with ⟨v,hv⟩|⟨m,hm⟩
   · rw[hv]at hex;refine⟨v,fun w=>by rw[hex];rfl,?_⟩
     rcases h with h|⟨h,_⟩
     · unfold Oper.wp at h;rw[hex]at h;exact h
     · have h1:=h.1;rw[hex]at h1;exact absurd (show noRoomEvent∈(#[]:Array Event)from h1) (by simp)
   · rw[hm]at hex
     rcases h with h|⟨h,_⟩
     · unfold Oper.wp at h;rw[hex]at h;exact h.elim
     · have h1:=h.1;rw[hex]at h1;exact absurd (show noRoomEvent∈(#[]:Array Event)from h1) (by simp)
def laterB (md:Region.Mode)(ops:Array Oper)(n:Nat):Bool:=
 (List.range ops.size).all fun t=>decide (t<=n)||(List.range t).any fun s=>decide (n<=s)&&Region.waitsFor md ops t s
theorem FQ {n:Nat}{listed:Array Bool}(hs:Region.sinkB md ops n=true)(hl:laterB md ops n=true)(hn:n<ops.size)(inv:HeadInv md ops n listed){i:Nat}(hi:i<n)(hu:listed.getD i true=false):
 ∀t,n<=t->t∉Region.ready md ops listed:=by
 have key:∀d i,n-i=d->i<n->listed.getD i true=false->∃o e,ops[n]? =some o/\e∈o.after/\Region.binds md e=true/\listed.getD e.on false=false:=by
  intro d
  induction d using Nat.strongRecOn with
  |_ d ih=>
   intro i hd hin hu;obtain⟨j,hj,hj2⟩:=List.any_eq_true.1 (List.all_eq_true.1 hs i (List.mem_range.2 hin));simp only[Bool.and_eq_true,decide_eq_true_eq]at hj2;have hjn:=List.mem_range.1 hj;obtain⟨oj,hoj,e,he,hb,hon⟩:=Region.waitsFor_spec hj2.2;have hu':listed.getD e.on false=false:=by rw[hon];exact getD_both hu
   by_cases hjt:j=n
   · subst hjt;exact⟨oj,e,hoj,he,hb,hu'⟩
   · refine ih (n-j) (by omega) j rfl (by omega) ?_;cases hlj:listed.getD j false with
     |false=>exact getD_in (by rw[inv.size];omega) hlj
     |true=>rw[inv.closed j oj hoj hlj e he hb]at hu';cases hu'
 intro t ht hr;obtain⟨hut,ot,hot,hall⟩:=mem_ready.1 hr;by_cases htn:t=n
 · subst htn;obtain⟨o,e,ho,he,hb,hf⟩:=key _ i rfl hi hu;rw[hot]at ho;injection ho with ho
   subst ho;rw[hall e he hb]at hf;cases hf
 · have htl:t<ops.size:=(Array.getElem?_eq_some_iff.1 hot).1;have h1:=List.all_eq_true.1 hl t (List.mem_range.2 htl);simp only[Bool.or_eq_true,decide_eq_true_eq]at h1
   rcases h1 with h1|h1
   · omega
   · obtain⟨s,hs1,hs2⟩:=List.any_eq_true.1 h1;simp only[Bool.and_eq_true,decide_eq_true_eq]at hs2;have hst:=List.mem_range.1 hs1;obtain⟨o',ho',e,he,hb,hon⟩:=Region.waitsFor_spec hs2.2;rw[hot]at ho';injection ho' with ho'
     subst ho';have h2:=hall e he hb;rw[hon,getD_both (inv.tail s hs2.1 (by omega))]at h2;cases h2
def headAny (P:Program)(md:Region.Mode)(ops:Array Oper)(C:World->Prop)(n:Nat)(L:Array Bool->Act->Prop):Nat->Array Bool->Act->Prop
 |0,listed,a=>L listed a
 |f+1,listed,a=>Region.ready md ops listed≠[]/\∀i∈Region.ready md ops listed,i<n/\qOp P ops C i (headAny P md ops C n L f (listed.setIfInBounds i true)) a
theorem H0 {n g:Nat}{L:Array Bool->Act->Prop}{Q:Exit->Act->World->Prop}(hL:∀listed a w,C w->L listed a->wpAny P md ops Q g listed a w):
 ∀(f:Nat)(listed:Array Bool)(a:Act)(w:World),C w->headAny P md ops C n L f listed a->wpAny P md ops Q (f+g) listed a w
 |0,_,_,w,hw,h=>by rw[Nat.zero_add];exact hL _ _ w hw h
 |f+1,_,_,w,hw,h=>by
  rw[Nat.add_right_comm];exact⟨fun h0=>absurd h0 h.1,fun i hi=>wpOp_of_qOp hw (fun a' w' hw' h'=>H0 hL f _ a' w' hw' h') (h.2 i hi).2⟩
theorem Kz {n i:Nat}{oi:Oper}{v:Value}{L:Array Bool->Act->Prop}(hi:ops[i]? =some oi)(hsel:Region.noSelect ops=true)
 (hs:Region.sinkB md ops n=true) (hl:laterB md ops n=true) (hn:n<ops.size) (hin:i<n) (hL:∀listed a,L listed a->∀j∈Region.ready md ops listed,n<=j):
 ∀(f:Nat)(listed:Array Bool)(a:Act),HeadInv md ops n listed->
  (∀j oj,ops[j]? =some oj->j≠i->listed.getD j true=false->(∀e∈oj.after,Region.binds md e=true->e.on≠i)->oi.apart ops oj=true)->
  i∈Region.ready md ops listed->YieldsIn P ops C oi v a->headAny P md ops C n L f (listed.setIfInBounds i true) (a.put oi.dst v)->headAny P md ops C n L (f+1) listed a:=by
 intro f
 induction f with
 |zero=>
  intro listed a inv _ hr hy H;refine⟨List.ne_nil_of_mem hr,fun j hj=>?_⟩;have hjn:j<n:=Nat.lt_of_not_le fun h=>FQ hs hl hn inv hin (mem_ready.1 hr).1 j h hj
  by_cases hji:j=i
  · subst hji;exact⟨hjn,hy.qOp hi H⟩
  · have:=hL _ _ H j (ready_mono hj hji);omega
 |succ f ih=>
  intro listed a inv hfree hr hy H;refine⟨List.ne_nil_of_mem hr,fun j hj=>?_⟩;have hjn:j<n:=Nat.lt_of_not_le fun h=>FQ hs hl hn inv hin (mem_ready.1 hr).1 j h hj
  refine⟨hjn,?_⟩;by_cases hji:j=i
  · subst hji;exact hy.qOp hi H
  obtain⟨hju,oj,hoj,hall⟩:=mem_ready.1 hj;have hno:∀e∈oj.after,Region.binds md e=true->e.on≠i:=fun e he hb heq=>by
   have h1:=hall e he hb;rw[heq,getD_both (mem_ready.1 hr).1]at h1;cases h1
  have h2:=qOp_put hoj (hfree j oj hoj hji hju hno) (fun cs b=>Region.noSelect_spec hsel i oi cs b hi) (fun cs b=>Region.noSelect_spec hsel j oj cs b hoj) hy (H.2 j (ready_mono hj hji)).2;refine qOp_mono (fun a' h3=>ih _ a' (inv.set hj hjn) (fun k ok hk hki hun hno'=>hfree k ok hk hki ?_ hno') (ready_mono hr (Ne.symm hji)) h3.1 (by rw[Array.setIfInBounds_comm _ _ hji];exact h3.2)) h2;by_cases hjk:j=k
  · subst hjk;exact hju
  · rw[getD_set_ne true hjk]at hun;exact hun
def tailSeq (md:Region.Mode)(ops:Array Oper):Nat->Nat->Array Bool->Bool
 |0,_,listed=>(Region.ready md ops listed).isEmpty
 |g+1,k,listed=>(decide (Region.ready md ops listed=[k])||((match ops[k]? with|some o=>plainOp o|none=>false)&&Region.free md ops listed k&&(Region.ready md ops listed).contains k))&&tailSeq md ops g (k+1) (listed.setIfInBounds k true)
theorem Pc:∀{g k:Nat}{listed:Array Bool},listed.getD k true=listed.getD k true->tailSeq md ops g k listed=true->(∀j,j<k->listed.getD j true=true)->∀j∈Region.ready md ops listed,k<=j:=by
 intro g k listed _ _ hd j hj
 rcases Nat.lt_or_ge j k with h|h
 · have:=(mem_ready.1 hj).1;rw[hd j h]at this;cases this
 · exact h
theorem EE {Q:Exit->Act->World->Prop}(hsel:Region.noSelect ops=true)(hQ:∀c a w d v,Q (.panic c) (Act.put a d v) w->Q (.panic c) a w):
 ∀(l:List Oper)(k:Nat)(listed:Array Bool)(a:Act)(w:World),(∀j,l[j]? =ops[k+j]?)->tailSeq md ops l.length k listed=true->wpList P ops Q l a w->wpAny P md ops Q l.length listed a w
 |[],_,_,_,_,_,hB,h=>⟨by simpa[tailSeq]using hB,h⟩
 |o::l,k,listed,a,w,hl,hB,h=>by
  have h0:ops[k]? =some o:=by simpa using(hl 0).symm
  have hl':∀j,l[j]? =ops[k+1+j]? :=fun j=>by have:=hl (j+1);simpa[Nat.add_assoc,Nat.add_comm 1 j]using this
  simp only[List.length_cons,tailSeq,Bool.and_eq_true,Bool.or_eq_true,decide_eq_true_eq,h0]at hB;obtain⟨hB1,hB2⟩:=hB
  rcases hB1 with hr|⟨⟨hp,hf⟩,hr⟩
  · refine⟨fun h1=>(by rw[hr]at h1;cases h1),fun i hi=>?_⟩;rw[hr]at hi;rw[List.mem_singleton.1 hi];have hw:wpOp P ops Q k (wpList P ops Q l) a w:=by unfold wpOp;simp only[h0];exact h
    exact wpOp_mono (fun a' w' h'=>EE hsel hQ l (k+1) _ a' w' hl' hB2 h') hw
  · have hwant:Region.wanted o (yielded ops a.tmps)=true:=by
     have:o.guard=none:=by
      simp only[plainOp,Bool.and_eq_true,Option.isNone_iff_eq_none]at hp;exact hp.1
     simp[Region.wanted,this]
    have h1:o.wp P a w (wpList P ops Q l) Q\/(o.asks P a w/\LetsOut Q):=by
     have h2:if Region.wanted o (yielded ops a.tmps)then o.wp P a w (wpList P ops Q l) Q\/(o.asks P a w/\LetsOut Q)else wpList P ops Q l (a.put o.dst undef) w:=h
     rwa [if_pos hwant]at h2
    obtain⟨v,hv,hK⟩:=Mf hp h1;exact wpAny_take h0 hsel hf hr (fun c a w=>hQ c a w _ _) (.inl ⟨hwant,hv⟩) (EE hsel hQ l (k+1) _ _ w hl' hB2 hK)
def headLex (md:Region.Mode)(ops:Array Oper)(g:Nat):Nat->Nat->Array Bool->Bool
 |0,k,listed=>tailSeq md ops g k listed&&(List.range k).all fun j=>listed.getD j true
 |f+1,k,listed=>(Region.ready md ops listed).contains k&&Region.free md ops listed k&&headLex md ops g f (k+1) (listed.setIfInBounds k true)
theorem FH {n g:Nat}{L:Act->Prop}(hsel:Region.noSelect ops=true)(hs:Region.sinkB md ops n=true)(hl:laterB md ops n=true)(hn:n<ops.size):
 ∀(l:List Oper)(k:Nat)(listed:Array Bool)(a:Act),(∀j,j<l.length->l[j]? =ops[k+j]?)->k+l.length=n->HeadInv md ops n listed->headLex md ops g l.length k listed=true->
  wpQuiet P ops C L l a->headAny P md ops C n (fun listed' a'=>(tailSeq md ops g n listed'=true/\∀j,j<n->listed'.getD j true=true)/\L a') l.length listed a
 |[],k,listed,a,_,hk,_,hB,h=>by
  obtain rfl:k=n:=by simpa using hk
  simp only[List.length_nil,headLex,Bool.and_eq_true,List.all_eq_true,List.mem_range]at hB;exact⟨hB,h⟩
 |o::l,k,listed,a,hlj,hk,inv,hB,h=>by
  have h0:ops[k]? =some o:=by simpa using(hlj 0 (by simp)).symm
  simp only[List.length_cons,headLex,Bool.and_eq_true]at hB;obtain⟨⟨hr,hf⟩,hB'⟩:=hB;have hkn:k<n:=by simp only[List.length_cons]at hk;omega
  have hr':k∈Region.ready md ops listed:=by simpa using hr
  have hq:qOp P ops C k (wpQuiet P ops C L l) a:=by unfold qOp;simp only[h0];exact h
  obtain⟨v,hy,hK⟩:=yieldsIn_of_qOp h0 hq;exact Kz h0 hsel hs hl hn hkn (fun listed' a' hL=>Pc rfl hL.1.1 hL.1.2) l.length listed a inv (Region.free_spec h0 hf) hr' hy
   (FH hsel hs hl hn l (k+1) _ _ (fun j hj=>by have:=hlj (j+1) (by simp;omega);simpa[Nat.add_assoc,Nat.add_comm 1 j]using this) (by simp only[List.length_cons]at hk;omega) (inv.set hr' hkn) hB' hK)
def qtailB (md:Region.Mode)(ops:Array Oper)(n:Nat):Bool:=
 Region.noSelect ops&&decide (n<ops.size)&&Region.sinkB md ops n&&laterB md ops n&&headLex md ops (ops.size-n) n 0 (Array.replicate ops.size false)
theorem PU {id:Nat}{Q:Exit->Act->World->Prop}{a:Act}{w:World}{l:List Oper}(n:Nat)(hm:P.follows .mixedOrders=true)(hB:qtailB .any l.toArray n=true)(hQ:∀c a w d v,Q (.panic c) (Act.put a d v) w->Q (.panic c) a w)
 (hC:C {w with drawn:=w.drawn+1}) (h:wpQuiet P l.toArray C (fun a'=>∀w',C w'->wpList P l.toArray Q (l.drop n) a' w') (l.take n) a):(Code.region id l.toArray true).wp P Q a w:=by
 simp only[qtailB,Bool.and_eq_true,decide_eq_true_eq]at hB;obtain⟨⟨⟨⟨hsel,hn⟩,hs⟩,hl⟩,hlex⟩:=hB;have hn':n<l.length:=by simpa using hn
 have htl:(l.take n).length=n:=by simp;omega
 have hdl:(l.drop n).length=l.toArray.size-n:=by simp
 have inv0:HeadInv .any l.toArray n (Array.replicate l.toArray.size false):=
  ⟨by simp,fun j oj _ hl=>(by rw[getD_replicate_false]at hl;cases hl),fun t _ ht=>getD_in (by simpa using ht) (getD_replicate_false _ _)⟩
 have H:=FH (md:=.any) (g:=l.toArray.size-n) hsel hs hl hn (l.take n) 0 _ a (fun j hj=>by
  have hj':j<n:=by rw[htl]at hj;exact hj
  simp[hj']) (by simpa using htl) inv0 (by rw[htl];exact hlex) h
 refine wp_region_any hm ?_;have:=H0 (Q:=Q) (g:=l.toArray.size-n) (fun listed a' w' hw' hL=>by
  have:=EE (md:=.any) (Q:=Q) hsel hQ (l.drop n) n listed a' w' (fun j=>by simp[List.getElem?_drop]) (by rw[hdl];exact hL.1.1) (hL.2 w' hw')
  rwa [hdl]at this) _ _ _ _ hC H
 rw[htl,show n+(l.toArray.size-n)=l.toArray.size by omega]at this;exact this
theorem PR {id:Nat}{Q:Exit->Act->World->Prop}{a:Act}{w:World}{l:List Oper}(n:Nat)(hm:P.follows .mixedOrders=true)(hB:qtailB .any l.toArray n=true)(hQ:∀c a w d v,Q (.panic c) (Act.put a d v) w->Q (.panic c) a w)
 (h:wpQuiet P l.toArray (fun w'=>∃p:Ext w,w'=p.world) (fun a'=>∀w',(∃p:Ext w,w'=p.world)->wpList P l.toArray Q (l.drop n) a' w') (l.take n) a):(Code.region id l.toArray true).wp P Q a w:=
 PU (C:=fun w'=>∃p:Ext w,w'=p.world) n hm hB hQ ⟨⟨w.drew,(Below.refl _ _).drew⟩,rfl⟩ h
end
theorem PS {P:Program}{id:Nat}{K:Act->World->Prop}{Q:Exit->Act->World->Prop}{a:Act}{w:World}{l:List Oper}(n:Nat)(hm:P.follows .mixedOrders=true)(hB:qtailB .any l.toArray n=true)
 (h:wpQuiet P l.toArray (fun w'=>∃p:Ext w,w'=p.world) (fun a'=>∀w',(∃p:Ext w,w'=p.world)->wpList P l.toArray (Exit.then K (fun _ _ _=>False)) (l.drop n) a' w') (l.take n) a):(Code.region id l.toArray true).wp P (Exit.then K Q) a w:=
 Go.wp_mono (PR n hm hB (by intro c a w d v h;exact h) h) (by intro e a w h;cases e<;>first|exact h|exact h.elim)
end
end Go.Proofs.YtmiilfnchfdfcaaGreatDoor
