/- Be: Root7, Root10, Root11, Root12, Root13, Root14, Root15, Root16, Root17, Root18, Lay1. -/
import Derived.Test.YtmiilfnchfdfcaaGreatDoorBeRoot6
set_option maxRecDepth 100000
set_option maxHeartbeats 40000000
set_option linter.unusedVariables false
namespace Go.Proofs.YtmiilfnchfdfcaaGreatDoor
section
open Go.RowKit Go.Shelf
attribute [local go_sem] Ad Af Ag Ab Ai Ah
def snCells (l:List Sn):List Value:=l.flatMap fun e=>[.int .u32 e.id,.int .i64 e.l1,.string (bs e.name)]
theorem PG (l:List Sn):(snCells l).length=l.length*3:=by
 induction l with
 |nil=>rfl
 |cons x l ih=>simp only[snCells,List.flatMap_cons,List.length_append,List.length_cons,List.length_nil]at ih ⊢;omega
theorem PF (l:List Sn)(i:Nat)(h:i<l.length):(snCells l)[i*3]? =some (.int .u32 l[i].id)/\(snCells l)[i*3+1]? =some (.int .i64 l[i].l1)/\(snCells l)[i*3+2]? =some (.string (bs l[i].name)):=by
 induction l generalizing i with
 |nil=>simp at h
 |cons x l ih=>
  have e:snCells (x::l)=.int .u32 x.id:: .int .i64 x.l1:: .string (bs x.name)::snCells l:=rfl;cases i with
  |zero=>rw[e];exact⟨rfl,rfl,rfl⟩
  |succ i=>
   have:=ih i (by simpa using h);rw[e,show(i+1)*3=i*3+1+1+1 by omega];simpa using this
theorem Cells.sn {w:World}{A:Option Addr}{l:List Sn}(h:Cells w A (snCells l)){i:Nat}(hi:i<l.length):
 ∃b off,A=some ⟨b,off,none⟩/\∀j (hj:j<l.length),w.cell? ⟨b,off+j*3,none⟩=some (.int .u32 l[j].id)/\w.cell? ⟨b,off+j*3+1,none⟩=some (.int .i64 l[j].l1)/\w.cell? ⟨b,off+j*3+2,none⟩=some (.string (bs l[j].name)):=by
 rcases h with h|⟨b,off,rfl,h⟩
 · have:=congrArg List.length h;rw[PG]at this;simp at this;omega
 · refine⟨b,off,rfl,fun j hj=>?_⟩;obtain⟨e1,e2,e3⟩:=PF l j hj;exact⟨h _ _ e1,by rw[Nat.add_assoc];exact h _ _ e2,by rw[Nat.add_assoc];exact h _ _ e3⟩
def dmRows (l:List Dm):List Value:=l.flatMap dmCells
theorem Bk (l:List Dm)(m:Dm):dmRows l++dmCells m=dmRows (l++[m]):=by simp[dmRows]
theorem AY {l:List Dm}(h:∀m∈l,m.bits.length=64):(dmRows l).length=l.length*66:=by
 induction l with
 |nil=>rfl
 |cons x l ih=>
  have h1:=AA (h x (by simp));have h2:=ih (fun m hm=>h m (by simp[hm]));simp only[dmRows,List.flatMap_cons,List.length_append,List.length_cons]at h2 ⊢;omega
theorem AZ (m:Dm):∀u∈dmCells m,u.oneCell'=true:=by
 intro u hu;simp only[dmCells,List.mem_cons,List.mem_map]at hu
 rcases hu with rfl|rfl|⟨b,_,rfl⟩<;>simp[Value.oneCell']
theorem GY (l:List Dm):∀u∈dmRows l,u.oneCell'=true:=by
 intro u hu;obtain⟨m,_,h⟩:=List.mem_flatMap.1 hu;exact AZ m u h
abbrev dmPlace (i:Nat):Value:=.agg #[.int .i64 (4+(i:Int)),.int .i64 0,.int .i64 64,.func (.func 76) #[] #[],.func (.func 108) #[] #[]]
theorem Pb (i:Nat)(hi:i<2)(w:World):CR 70 #[.int .i64 i] w (dmPlace i):=by
 unfold dmPlace;obtain⟨a,ha⟩:∃a:Int,(4:Int)+(i:Int)=a:=⟨_,rfl⟩;rw[ha];have hB:=Y0 w;obtain⟨r,rk⟩:=Z5 (Blk.new w 160 #[.int .i64 a,.int .i64 0,.int .i64 64,.func (.func 76) #[] #[],.func (.func 108) #[] #[]]);have a0:=Ya hB r;go_enter Tryz.func70,Tryz.ntmps70;go_wp2_with fail
 refine bodyPost_ret (v:=.agg #[.int .i64 a,.int .i64 0,.int .i64 64,.func (.func 76) #[] #[],.func (.func 108) #[] #[]]) (by simp[results,Tryz.results70,go_sem,rk]) rfl ?_;exact⟨rfl,a0⟩
end
section
open Go.RowKit Go.Shelf
def dmLits (m:Dm):List Lit:=.string m.name:: .bool m.use::m.bits.map .bool
theorem KN {a b:Dm}(h:dmLits a=dmLits b):a=b:=by
 obtain⟨n,u,l⟩:=a;obtain⟨n',u',l'⟩:=b;simp only[dmLits,List.cons.injEq,Lit.string.injEq,Lit.bool.injEq]at h;obtain⟨rfl,rfl,h⟩:=h;rw[(List.map_inj_right (fun x y e=>by injection e)).1 h]
section
variable {P:Program}
theorem Mm {e:TypeId}(ue:P.underlying e=some .bool)(ce:P.cellsOf e=1)(d:Nat)(l:List Bool)(k n:Nat)(pre:List Value)(hp:pre.length=k):
 ((List.range' k l.length).mapM fun i=>P.keyLits (d+1) e (((pre++l.map Value.bool).drop (i*P.cellsOf e)).take (P.cellsOf e)))=some (l.map fun b=>[Lit.bool b]):=by
 induction l generalizing k pre with
 |nil=>rfl
 |cons b l ih=>
  have h1:=ih (k+1) (pre++[.bool b]) (by simp[hp]);have e1:pre++[Value.bool b]++l.map Value.bool=pre++(b::l).map Value.bool:=by simp
  rw[e1]at h1;have e2:((pre++(b::l).map Value.bool).drop (k*P.cellsOf e)).take (P.cellsOf e)=[.bool b]:=by
   rw[ce,Nat.mul_one,<-hp,List.drop_left];rfl
  have e3:P.keyLits (d+1) e [.bool b]=some [.bool b]:=by simp[Program.keyLits,ue]
  rw[List.length_cons,List.range'_succ,List.mapM_cons,e2,e3,h1];rfl
theorem GM {t e:TypeId}{f0 f1 f2:Field}(hs:P.underlying t=some (.struct #[f0,f1,f2]))(hn:#[f0,f1,f2].all (·.name != "_")=true)
 (ho0:f0.offset=0/\P.cellsOf f0.type=1) (ho1:f1.offset=1/\P.cellsOf f1.type=1) (ho2:f2.offset=2/\P.cellsOf f2.type=64) (hC:P.cellsOf t=66)
 (u0:P.underlying f0.type=some .string) (u1:P.underlying f1.type=some .bool) (u2:P.underlying f2.type=some (.array 64 e)) (ue:P.underlying e=some .bool) (ce:P.cellsOf e=1)
 (d:Nat) (m:Dm) (hm:m.name.length<=maxLen) (hb:m.bits.length=64):P.keyLits (d+3) t (dmCells m)=some (dmLits m):=by
 have e0:P.keyLits (d+2) f0.type (((dmCells m).drop f0.offset).take (P.cellsOf f0.type))=some [.string m.name]:=by
  rw[ho0.1,ho0.2];show P.keyLits (d+2) f0.type [.string (bs m.name)]=_;have h9:(bs m.name).size<=maxLen:=by rw[Ab];exact hm
  rw[Program.keyLits.eq_def];simp only[u0,h9,if_true];simp[bs]
 have e1:P.keyLits (d+2) f1.type (((dmCells m).drop f1.offset).take (P.cellsOf f1.type))=some [.bool m.use]:=by
  rw[ho1.1,ho1.2];show P.keyLits (d+2) f1.type [.bool m.use]=_;simp[Program.keyLits,u1]
 have e2:P.keyLits (d+2) f2.type (((dmCells m).drop f2.offset).take (P.cellsOf f2.type))=some (m.bits.map .bool):=by
  rw[ho2.1,ho2.2];have h1:((dmCells m).drop 2).take 64=m.bits.map .bool:=by
   show(m.bits.map Value.bool).take 64=_;exact List.take_of_length_le (by simp;omega)
  have h2:=Mm ue ce d m.bits 0 64 [] rfl;rw[List.nil_append,hb,<-List.range_eq_range']at h2;rw[h1,Program.keyLits.eq_def];simp only[u2,List.length_map,hb,ho2.2,if_true,h2,Option.map_some,Option.some.injEq];generalize m.bits=l
  induction l with
  |nil=>rfl
  |cons b l ih=>simp only[List.map_cons,List.flatten_cons,ih];rfl
 rw[Program.keyLits.eq_def];simp only[hs,AA hb,hC,hn,and_self,if_true,List.mapM_cons,List.mapM_nil,e0,e1,e2];simp[dmLits]
theorem Lc {t e:TypeId}{f0 f1 f2:Field}(hk:P.keyTypeAt 3 t=true)(hs:P.underlying t=some (.struct #[f0,f1,f2]))(hn:#[f0,f1,f2].all (·.name != "_")=true)
 (ho0:f0.offset=0/\P.cellsOf f0.type=1) (ho1:f1.offset=1/\P.cellsOf f1.type=1) (ho2:f2.offset=2/\P.cellsOf f2.type=64) (hC:P.cellsOf t=66)
 (u0:P.underlying f0.type=some .string) (u1:P.underlying f1.type=some .bool) (u2:P.underlying f2.type=some (.array 64 e)) (ue:P.underlying e=some .bool) (ce:P.cellsOf e=1)
 (a b:Dm) (ha:a.name.length<=maxLen) (ha2:a.bits.length=64) (hb:b.name.length<=maxLen) (hb2:b.bits.length=64) (w:World):
 (Op.equal t (dmval a) (dmval b)).run P w=.ok (decide (a=b)) w:=by
 have ff:∀m:Dm,m.bits.length=64->(dmval m).formed P t=true:=fun m h=>by
  simp only[Value.formed,hs,hC];simp[AA h]
 obtain⟨r,hr,hiff⟩:=run_equalIn_deep (10000-3) 3 t hk w 3 3 (dmval a) (dmval b) (dmLits a) (dmLits b) (ff a ha2) (ff b hb2) (GM hs hn ho0 ho1 ho2 hC u0 u1 u2 ue ce 0 a ha ha2) (GM hs hn ho0 ho1 ho2 hC u0 u1 u2 ue ce 0 b hb hb2);have h1:r=decide (a=b):=by
  by_cases h:a=b
  · rw[decide_eq_true h];exact hiff.2 (by rw[h])
  · rw[decide_eq_false h];cases r with
    |false=>rfl
    |true=>exact absurd (KN (hiff.1 rfl)) h
 rw[<-h1];exact hr
end
theorem Gh (a b:Dm)(ha:a.name.length<=maxLen)(ha2:a.bits.length=64)(hb:b.name.length<=maxLen)(hb2:b.bits.length=64)(w:World):
 (Op.equal 42 (dmval a) (dmval b)).run Tryz.prog w=.ok (decide (a=b)) w:=
 Lc (e:=4) (by kernel_rfl) Tryz.underlying42 (by kernel_rfl) (by exact⟨rfl,by kernel_rfl⟩) (by exact⟨rfl,by kernel_rfl⟩) (by exact⟨rfl,by kernel_rfl⟩) (by kernel_rfl) (by kernel_rfl) (by kernel_rfl) (by kernel_rfl) (by kernel_rfl) (by kernel_rfl) a b ha ha2 hb hb2 w
attribute [local go_sem] Ad Af Ag Ab Ai Ah
theorem Blk.range {w:World}{g:Nat}{t:TypeId}{cs:List Value}(h:Blk w g t cs.toArray):w.rangeAt g 0 cs:=fun j v hv=>by rw[h.cell,Nat.zero_add];simpa using hv
theorem Blk.there {w:World}{g:Nat}{t:TypeId}{cs:List Value}(h:Blk w g t cs.toArray):w.there g 0 cs.length:=fun j hj=>⟨by rw[h.cell,Nat.zero_add];simp[hj],h.frozen _⟩
theorem IC {g:Nat}{t:TypeId}:∀(new old:List Value)(pre:List Value){w:World},new.length=old.length->Blk w g t (pre++old).toArray->Blk (w.setCells g pre.length new) g t (pre++new).toArray
 |[],[],_,_,_,h=>by simpa[World.setCells]using h
 |v::r,o::q,pre,w,hl,h=>by
  have h1:=h.set pre.length v;have e:(pre++o::q).toArray.setIfInBounds pre.length v=(pre++[v]++q).toArray:=by simp
  rw[e]at h1;have h2:=IC r q (pre++[v]) (by simpa using hl) h1;rw[List.length_append,List.length_singleton,List.append_assoc,List.singleton_append]at h2;exact h2
theorem AN {w:World}{g:Nat}{t:TypeId}{a:Dm}(h:Blk w g t (dmCells a).toArray)(b:Dm)(ha:a.bits.length=64)(hb:b.bits.length=64):Blk (w.setCells g 0 (dmCells b)) g t (dmCells b).toArray:=
 IC (dmCells b) (dmCells a) [] (by rw[AA ha,AA hb]) h
theorem AG {w:World}{g k:Nat}{t:TypeId}{cs:Array Value}(h:Blk w k t cs)(hk:k≠g)(b:Dm):Blk (w.setCells g 0 (dmCells b)) k t cs:=(Bx hk (dmCells b) 0 w).trans h
theorem AM {B:Nat}{w0 w:World}{g:Nat}(h:Below B w0 w)(hg:B<=g)(b:Dm):Below B w0 (w.setCells g 0 (dmCells b)):=below_setCells' hg (dmCells b) 0 h
theorem IsPn.offCells {L:Pn}{p q:Pl}{g:Nat}(ho:PnOff g L p q):∀(vs:List Value)(o:Nat){w:World},IsPn w L p q->IsPn (w.setCells g o vs) L p q
 |[],_,_,h=>h
 |v::r,o,_,h=>IsPn.offCells ho r (o+1) (h.off (a:=⟨g,o,none⟩) ho v)
theorem IsPn.offD {w:World}{L:Pn}{p q:Pl}(h:IsPn w L p q){g:Nat}(ho:PnOff g L p q)(b:Dm):IsPn (w.setCells g 0 (dmCells b)) L p q:=IsPn.offCells ho (dmCells b) 0 h
theorem IsDk.offCells {L:Dk}{p q:Pl}{g:Nat}(ho:DkOff g L p q):∀(vs:List Value)(o:Nat){w:World},IsDk w L p q->IsDk (w.setCells g o vs) L p q
 |[],_,_,h=>h
 |v::r,o,_,h=>IsDk.offCells ho r (o+1) (h.off (a:=⟨g,o,none⟩) ho v)
theorem IsDk.offD {w:World}{L:Dk}{p q:Pl}(h:IsDk w L p q){g:Nat}(ho:DkOff g L p q)(b:Dm):IsDk (w.setCells g 0 (dmCells b)) L p q:=IsDk.offCells ho (dmCells b) 0 h
def dmN:Nat:=66
theorem AT {m:Dm}(h:m.bits.length=64):(dmCells m).length=dmN:=AA h
theorem F7 (m:Dm)(k:Nat)(h:k<m.bits.length):(dmCells m)[2+k]? =some (.bool m.bits[k]):=by
 rw[show 2+k=k+1+1 by omega];simp[dmCells,h]
theorem Blk.bit {w:World}{g:Nat}{t:TypeId}{m:Dm}(h:Blk w g t (dmCells m).toArray)(k:Nat)(hk:k<m.bits.length):w.cell? ⟨g,2+k,none⟩=some (.bool m.bits[k]):=by
 rw[h.cell];simpa using F7 m k hk
theorem CU {w:World}{g:Nat}{t:TypeId}{n:List UInt8}{u:Bool}{l:List Bool}(h:Blk w g t (dmCells ⟨n,u,l⟩).toArray)(k:Nat)(b:Bool):Blk (w.setCell ⟨g,2+k,none⟩ (.bool b)) g t (dmCells ⟨n,u,l.set k b⟩).toArray:=by
 have:=h.set (2+k) (.bool b);rw[show 2+k=k+1+1 by omega]at this ⊢;simpa[dmCells,List.map_set]using this
theorem Fx {w:World}{g:Nat}{t:TypeId}{m:Dm}(h:Blk w g t (dmCells m).toArray)(n:List UInt8):Blk (w.setCell ⟨g,0,none⟩ (.string (bs n))) g t (dmCells {m with name:=n}).toArray:=by
 simpa[dmCells]using h.set 0 (.string (bs n))
theorem BM {w:World}{g:Nat}{t:TypeId}{m:Dm}(h:Blk w g t (dmCells m).toArray)(b:Bool):Blk (w.setCell ⟨g,1,none⟩ (.bool b)) g t (dmCells {m with use:=b}).toArray:=by
 simpa[dmCells]using h.set 1 (.bool b)
theorem Tryz.dm_size:(Tryz.prog.info? 42).map (·.size)=some 66:=by kernel_rfl
theorem Tryz.dm_agg (W:World):(isAgg 42).run Tryz.prog W=.ok true W:=by
 unfold isAgg;rw[Sem.run_bind,run_underlying Tryz.underlying42 W];rfl
theorem Tryz.dm_siz (W:World):(sizeOf 42).run Tryz.prog W=.ok dmN W:=by
 unfold dmN;obtain⟨i,hi,h⟩:=Option.map_eq_some_iff.1 Tryz.dm_size;simp[sizeOf,typeInfo,hi,h]
theorem Tryz.dm_load {w:World}{b o:Nat}(m:Dm)(hm:m.bits.length=64)(h:w.rangeAt b o (dmCells m)):(loadCellsFrom ⟨b,o,none⟩ 0 dmN #[]).run Tryz.prog w=.ok (dmCells m).toArray w:=by
 have:=run_loadCells_list (P:=Tryz.prog) w ⟨b,o,none⟩ (dmCells m) (fun j v hv=>by rw[Addr.add_mid];exact h j v hv);rw[AA hm]at this;exact this
theorem Tryz.dm_store {w:World}{b o:Nat}(m:Dm)(hm:m.bits.length=64)(h:w.there b o 66):(storeCells ⟨b,o,none⟩ (dmCells m) 0).run Tryz.prog w=.ok () (w.setCells b o (dmCells m)):=by
 have hl:=AA hm;have:=run_storeCells_cells (P:=Tryz.prog) b o (dmCells m) 0 w (fun j hj=>by simpa using(h j (by omega)).1) (fun j hj=>by simpa using(h j (by omega)).2) (AZ m);simpa using this
theorem Tryz.dm_all {w:World}{g:Nat}(m:Dm)(hm:m.bits.length=64)(h:Blk w g 42 (dmCells m).toArray):
 (loadCellsFrom ⟨g,0,none⟩ 0 dmN #[]).run Tryz.prog w=.ok (dmCells m).toArray w/\w.cell? ⟨g,0,none⟩=some (.string (bs m.name))/\w.cell? ⟨g,1,none⟩=some (.bool m.use):=
 ⟨Tryz.dm_load m hm h.range,h.cell 0,h.cell 1⟩
theorem Tryz.dm_put {w:World}{g:Nat}{a:Dm}(m:Dm)(hm:m.bits.length=64)(ha:a.bits.length=64)(h:Blk w g 42 (dmCells a).toArray):(storeCells ⟨g,0,none⟩ (dmCells m) 0).run Tryz.prog w=.ok () (w.setCells g 0 (dmCells m)):=
 Tryz.dm_store m hm (by have:=h.there;rwa [AA ha]at this)
theorem Tryz.dm_zeros:Tryz.zeroCells42=(dmCells Dm.zero).toArray:=by kernel_rfl
section
variable {P:Program}
theorem AP {ops:Array Oper}{rest:List Oper}{o:Oper}{a:Act}{w:World}{Q:Exit->Act->World->Prop}(hgd:o.guard=none)(v:Value)(hr:(execOp a.eval o).run P w=.ok (.value v) w)
 (h:wpList P ops Q rest (a.put o.dst v) w):wpList P ops Q (o::rest) a w:=wpList_plain hgd fun K hK=>by unfold Oper.wp;rw[hr];exact hK _ _ h
theorem Hu {o:Oper}{a:Act}{C:World->Prop}{K:Act->Prop}(v:Value)(hr:∀w,(execOp a.eval o).run P w=.ok (.value v) w)(hk:K (a.put o.dst v)):o.quiet P a C K:=
 ⟨v,fun w _=>by unfold Oper.quietAt;rw[hr w];exact⟨rfl,rfl⟩,hk⟩
end
theorem Tryz.run_dm {ρ:Operand->Value}{o:Oper}(x y:Operand)(t':TypeId)(ho:o.op=.binOp .eql 42 x y t')(m n:Dm)(hx:ρ x=dmval m)(hy:ρ y=dmval n)
 (hm:m.name.length<=maxLen) (hm2:m.bits.length=64) (hn:n.name.length<=maxLen) (hn2:n.bits.length=64) (b:Bool) (hb:decide (m=n)=b) (w:World):(execOp ρ o).run Tryz.prog w=.ok (.value (.bool b)) w:=by
 have he:=Gh m n hm hm2 hn hn2 w;rw[hb]at he;have hg:(eqGuard .eql 42 x y (dmval m) (dmval n)).run Tryz.prog w=.ok () w:=by
  have hp:(Sem.program Sem.pure).run Tryz.prog w=.ok Tryz.prog w:=rfl;simp[eqGuard,Sem.run_bind,program,hp]
 unfold execOp;simp only[ho,hx,hy,Sem.run_bind,hg,Result.andThen_ok,binOp,he,Sem.run_pure]
theorem Tryz.run_dmn {ρ:Operand->Value}{o:Oper}(x y:Operand)(t':TypeId)(ho:o.op=.binOp .neq 42 x y t')(m n:Dm)(hx:ρ x=dmval m)(hy:ρ y=dmval n)
 (hm:m.name.length<=maxLen) (hm2:m.bits.length=64) (hn:n.name.length<=maxLen) (hn2:n.bits.length=64) (b:Bool) (hb:decide (m=n)=b) (w:World):(execOp ρ o).run Tryz.prog w=.ok (.value (.bool (!b))) w:=by
 have he:=Gh m n hm hm2 hn hn2 w;rw[hb]at he;have hg:(eqGuard .neq 42 x y (dmval m) (dmval n)).run Tryz.prog w=.ok () w:=by
  have hp:(Sem.program Sem.pure).run Tryz.prog w=.ok Tryz.prog w:=rfl;simp[eqGuard,Sem.run_bind,program,hp]
 unfold execOp;simp only[ho,hx,hy,Sem.run_bind,hg,Result.andThen_ok,binOp,he,Sem.run_pure]
theorem Tryz.build_dm (w:World):(Instr.build 42 #[]).run Tryz.prog w=.ok (dmval Dm.zero) w:=by kernel_rfl
theorem Tryz.run_dmz {ρ:Operand->Value}{o:Oper}(ho:o.op=.build 42 #[])(w:World):(execOp ρ o).run Tryz.prog w=.ok (.value (dmval Dm.zero)) w:=by
 have h0:(#[]:Array (Nat×Operand)).map (fun p=>(p.1,ρ p.2))=#[]:=by simp
 unfold execOp;simp only[ho,h0,Sem.run_bind,Tryz.build_dm,Result.andThen_ok,Sem.run_pure]
theorem Cells.dm {w:World}{A:Option Addr}{l:List Dm}(hl:∀m∈l,m.bits.length=64)(h:Cells w A (dmRows l)){i:Nat}(hi:i<l.length):
 ∃b off,A=some ⟨b,off,none⟩/\b<w.heap.size/\∀j (hj:j<l.length),w.rangeAt b (off+j*dmN) (dmCells l[j]):=by
 have a0:∀(l:List Dm),(∀m∈l,m.bits.length=64)->∀j (hj:j<l.length) k v,(dmCells l[j])[k]? =some v->(dmRows l)[j*66+k]? =some v:=fun l=>by
  induction l with
  |nil=>intro _ j hj;simp at hj
  |cons x l ih=>
   intro hl j hj k v hv;have hx:=AA (hl x (by simp));show(dmCells x++dmRows l)[j*66+k]? =some v;cases j with
   |zero=>
    have hk:k<(dmCells x).length:=(List.getElem?_eq_some_iff.1 hv).1;rw[Nat.zero_mul,Nat.zero_add,List.getElem?_append_left hk];exact hv
   |succ j=>
    rw[List.getElem?_append_right (by omega),hx,show(j+1)*66+k-66=j*66+k by omega];exact ih (fun m hm=>hl m (by simp[hm])) j (by simpa using hj) k v hv
 rcases h with h|⟨b,off,rfl,h⟩
 · have:=congrArg List.length h;rw[AY hl]at this;simp at this;omega
 · refine⟨b,off,rfl,?_,fun j hj k v hv=>?_⟩
   · have a1:=AA (hl _ (List.getElem_mem hi));obtain⟨v,hv⟩:∃v,(dmCells l[i])[0]? =some v:=⟨_,rfl⟩;exact Bb (h _ v (a0 l hl i hi 0 v hv))
   · rw[Nat.add_assoc,dmN];exact h _ _ (a0 l hl j hj k v hv)
theorem Cr {w w':World}{b o:Nat}{cs:List Value}(h:w.rangeAt b o cs)(hb:Below w.heap.size w w'):w'.rangeAt b o cs:=fun j v hv=>Av hb (h j v hv)
theorem Ny (l:List Dm)(hl64:∀m∈l,m.bits.length=64)(hnm:∀m∈l,m.name.length<=maxLen)(A B:Option Addr)(c d:Nat)(w:World)(hA:Cells w A (dmRows l))(hB:Cells w B (dmRows l))(hl:l.length<=1000000):
 CR 25 #[.slice A l.length c,.slice B l.length d] w (.bool true):=by
 cases l with
 |nil=>
  go_enter Tryz.func25,Tryz.ntmps25;go_wp2_with fail
  go_loopw [5] (fun x W=>x=.int .i64 0/\Below w.heap.size w W) (fun x _=>0)
  case atStart=>exact⟨rfl,Below.refl _ _⟩
  case round=>
   obtain⟨rfl,hb⟩:=hrel;go_wp2_with fail
   go_ret
   exact⟨rfl,hb⟩
 |cons v l=>
 obtain⟨pa,oa,rfl,_,ha⟩:=hA.dm hl64 (i:=0) (by simp);obtain⟨pb,ob,rfl,_,hb⟩:=hB.dm hl64 (i:=0) (by simp);generalize hm:v::l=m at*;have HA:=hid (fun(W:World)(h:Below w.heap.size w W)(j:Nat)(hj:j<m.length)=>And.intro (Tryz.dm_load m[j] (hl64 _ (List.getElem_mem hj)) (Cr (ha j hj) h)) (Tryz.dm_load m[j] (hl64 _ (List.getElem_mem hj)) (Cr (hb j hj) h)));have a0:=Tryz.dm_agg;have a1:=Tryz.dm_siz;clear hA hB ha hb hm;go_enter Tryz.func25,Tryz.ntmps25;go_wp2_with fail
 go_loopw [5] (fun x W=>∃i:Nat,i<=m.length/\x=.int .i64 i/\Below w.heap.size w W) (fun x _=>m.length-(intOf x).toNat)
 case atStart=>exact⟨0,Nat.zero_le _,rfl,Below.refl _ _⟩
 case round=>
  obtain⟨i,hi,rfl,hb⟩:=hrel;by_cases hlt:i<m.length
  · have k0:=HA.out _ hb i hlt;have k1:=fun n=>HA.out _ (BX hb n) i hlt
    have k3:=And.intro (hnm _ (List.getElem_mem hlt)) (hl64 _ (List.getElem_mem hlt));generalize m[i]=e at k0 k1 k3;go_wp2_with fail
    refine wp_region_quiet_lit (by kernel_rfl) (by kernel_rfl) ?_
    repeat (go_big_quiet_step (fail))
    go_big_quiet_want
    refine Hu (.bool false) (fun W=>Tryz.run_dmn _ _ _ rfl e e rfl rfl k3.1 k3.2 k3.1 k3.2 true (decide_eq_true rfl) W) ?_
    go_big_quiet_on
    refine wpQuiet_nil ?_;intro _ hw';obtain⟨nq,hw''⟩:=hw';subst hw'';go_wp2_with fail
    go_roundw
    case rel=>exact⟨i+1,by omega,by go_num,BX hb _⟩
    case measure=>simp[intOf];omega
  · obtain rfl:i=m.length:=by omega
    go_wp2_with fail
    go_ret
    exact⟨rfl,hb⟩
theorem and7:∀k:Fin 64,bits .and .i64 ((k.val:Nat):Int) 7=((k.val%8:Nat):Int):=by decide+kernel
theorem FH (l:List UInt8)(j:Nat)(x:UInt8):(byteCells l).setIfInBounds j (.int .u8 x.toNat)=byteCells (l.set j x):=by simp[byteCells,List.map_set]
theorem JM (l:List UInt8)(j:Nat)(h:j<l.length):(byteCells l)[j]? =some (.int .u8 (l[j]).toNat):=by simp[byteCells,h]
theorem Blk.byte {w:World}{g:Nat}{t:TypeId}{l:List UInt8}(h:Blk w g t (byteCells l))(j:Nat)(hj:j<l.length):w.cell? ⟨g,j,none⟩=some (.int .u8 (l.getD j 0).toNat):=by
 rw[h.cell,JM l j hj,List.getD_eq_getElem?_getD,List.getElem?_eq_getElem hj];rfl
theorem CV {w:World}{g:Nat}{t:TypeId}{l:List UInt8}(h:Blk w g t (byteCells l))(j:Nat)(x:UInt8):Blk (w.setCell ⟨g,j,none⟩ (.int .u8 x.toNat)) g t (byteCells (l.set j x)):=by
 rw[<-FH];exact h.set j _
theorem Ip (w:World):CR 76 #[dmval Dm.zero] w (.tuple #[.string (bs (List.replicate 64 0)),.bool true]):=by
 have c:=fun W=>Pe 64 (by decide) W
 rw[show((64:Nat):Int)=64 from rfl]at c;have a1:=Tryz.dm_agg;have a2:=Tryz.dm_siz;generalize List.replicate 64 (0:UInt8)=T at*;have hB:=Y0 w;have x:=Blk.new w 42 (dmCells Dm.zero).toArray;have xk:=Tryz.dm_all Dm.zero rfl x;have a0:=hB.alloc hB.size (.cells (dmCells Dm.zero).toArray 42);go_enter Tryz.func76,Tryz.ntmps76;go_wp2_with (first|(go_at_call 113;refine(c _).mono ?_;rintro e w1 ⟨rfl,hb1⟩)|(refine AP rfl (dmval Dm.zero) (Tryz.run_dmz rfl _) ?_)|(refine AP rfl (.bool true) (Tryz.run_dm _ _ _ rfl Dm.zero Dm.zero rfl rfl (by decide) rfl (by decide) rfl true (decide_eq_true rfl) _) ?_))
 replace hB:=bt a0 hb1
 go_ret2
 exact⟨rfl,hB⟩
theorem Pd (m:Dm)(h64:m.bits.length=64)(hm:m.name.length<=maxLen)(hz:m≠Dm.zero)(w:World):Calls Tryz.prog 76 #[dmval m] w fun e w'=>(∃b,e=.returned (.tuple #[.string (bs b),.bool m.ok])/\(m.ok=true->b=m.bytes))/\Below w.heap.size w w':=by
 have cn:=fun W=>GU m.name hm W
 obtain⟨N,en,hN⟩:∃N en,nameR m.name=(N,en):=⟨_,_,rfl⟩;rw[hN]at cn;simp only at cn;have a4:nameOk m.name=false->en≠0:=fun h=>by rw[nameR,if_neg (by rw[h];simp)]at hN;obtain⟨_,rfl⟩:=Prod.mk.inj hN;decide
 have a2:nameOk m.name=true->en=0/\N=m.name++List.replicate (8-m.name.length) 0:=fun h=>by rw[nameR,if_pos h]at hN;obtain⟨a,b⟩:=Prod.mk.inj hN;exact⟨b.symm,a.symm⟩
 have ak:N.length<=8:=by
  cases h:nameOk m.name with
  |true=>rw[(a2 h).2];have:=Ch h;simp;omega
  |false=>rw[nameR,if_neg (by rw[h];simp)]at hN;obtain⟨rfl,_⟩:=Prod.mk.inj hN;simp
 have ag:=hid (show m.ok=decide (en=0) by
  rw[Dm.ok,decide_eq_false hz,Bool.false_or];cases h:nameOk m.name with
  |true=>rw[(a2 h).1];rfl
  |false=>exact(decide_eq_false (a4 h)).symm)
 have af:=hid (fun(h:m.ok=true)=>show m.bytes=At (N++m.tail) by
  rw[Dm.bytes,if_neg hz];rw[Dm.ok,decide_eq_false hz,Bool.false_or]at h;rw[(a2 h).2])
 have pp:=fun W=>MW (N++m.tail) (by rw[List.length_append,Dm.tail_length];unfold maxLen;omega) 64 W
 have a6:(padR (N++m.tail) 64).1=At (N++m.tail):=by
  have:=Dm.tail_length m;rw[padR,if_neg (by rw[List.length_append];omega)];rfl
 rw[a6]at pp;have aj:=Tryz.dm_agg;have al:=Tryz.dm_siz;have ah:=Dm.tail_length m;have a1:=hid (show m.tail=bitRow (fun k=>m.bits.getD k false) (Dm.flags m.use) 64 from rfl);generalize m.tail=TL at*;generalize m.bytes=BY at*;generalize m.ok=OK at*;clear a4 a2 hN a6;obtain⟨name,use,bits⟩:=m;simp only at h64 hm cn a1;have a3:=hid (fun(k:Nat)(hk:k<64)=>show bits.getD k false=bits[k]'(by omega) by rw[List.getD_eq_getElem?_getD,List.getElem?_eq_getElem (by omega)];rfl);cases use with
 |false=>
  have hB:=Y0 w;have x:=Blk.new w 42 (dmCells ⟨name,false,bits⟩).toArray;have xk:=Tryz.dm_all ⟨name,false,bits⟩ h64 x;have a5:=hB.alloc hB.size (.cells (dmCells ⟨name,false,bits⟩).toArray 42);go_enter Tryz.func76,Tryz.ntmps76;go_wp2_with (first|(refine AP rfl (dmval Dm.zero) (Tryz.run_dmz rfl _) ?_)|(refine AP rfl (.bool false) (Tryz.run_dm _ _ _ rfl ⟨name,false,bits⟩ Dm.zero rfl rfl hm h64 (by decide) rfl false (decide_eq_false hz) _) ?_))
  refine(cn _).mono ?_;rintro e w1 ⟨rfl,hb1⟩;replace hB:=bt a5 hb1;replace x:=x.below hb1 (by simp);have ai:=x.lt;have a8:=hB;have x0:=x;replace hB:=hB.alloc hB.size (.cells #[.int .u8 0,.int .u8 0,.int .u8 0,.int .u8 0,.int .u8 0,.int .u8 0,.int .u8 0,.int .u8 0,.int .u8 0,.int .u8 0,.int .u8 0,.int .u8 0,.int .u8 0,.int .u8 0,.int .u8 0,.int .u8 0] 167);replace x:=Yc x hB;have b0:Blk (w1.alloc (.cells #[.int .u8 0,.int .u8 0,.int .u8 0,.int .u8 0,.int .u8 0,.int .u8 0,.int .u8 0,.int .u8 0,.int .u8 0,.int .u8 0,.int .u8 0,.int .u8 0,.int .u8 0,.int .u8 0,.int .u8 0,.int .u8 0] 167)) w1.heap.size 167 (byteCells (List.replicate 16 0)):=Blk.new w1 167 #[.int .u8 0,.int .u8 0,.int .u8 0,.int .u8 0,.int .u8 0,.int .u8 0,.int .u8 0,.int .u8 0,.int .u8 0,.int .u8 0,.int .u8 0,.int .u8 0,.int .u8 0,.int .u8 0,.int .u8 0,.int .u8 0];have ae:w.heap.size<=w1.heap.size:=by omega
  replace xk:=Tryz.dm_all ⟨name,false,bits⟩ h64 x;have f0:=b0.frozen 0;have c0:=b0.byte 0 (by decide);go_wp2_with fail
  go_loopw [23] (fun k W=>∃n:Nat,n<=64/\k=.int .i64 n/\Blk W w1.heap.size 167 (byteCells (bitRow (fun k=>bits.getD k false) (Dm.flags false) n))/\Blk W w.heap.size 42 (dmCells ⟨name,false,bits⟩).toArray/\Below w.heap.size w W) (fun k _=>64-(intOf k).toNat)
  case atStart=>exact⟨0,Nat.zero_le _,rfl,b0,x,hB⟩
  case round=>
   clear xk x b0 hB;obtain⟨n,hn,rfl,b0,x,hB⟩:=hrel;have ac:w.heap.size≠w1.heap.size:=by omega
   have ad:(bitRow (fun k=>bits.getD k false) (Dm.flags false) n).length=16:=by rw[Cy,Dm.flags_length]
   by_cases hlt:n<64
   · have hk:=x.bit n (by rw[h64];exact hlt);have a0:=Cz (fun k=>bits.getD k false) (Dm.flags false) n;simp only[a3.out n hlt]at a0;simp only at hk;generalize bits[n]'(by omega)=b at hk a0;have e2:=and7 ⟨n,hlt⟩;simp only at e2;cases b with
     |false=>
      rw[if_neg (by decide)]at a0;have Hn:=hid a0;clear a0;go_wp2_with fail
      go_roundw
      case rel=>exact⟨n+1,by omega,by go_num,by rw[Hn.out];exact b0,x,hB⟩
      case measure=>simp[intOf];omega
     |true=>
      rw[if_pos rfl]at a0;obtain⟨j,hj⟩:∃j:Nat,8+n/8=j:=⟨_,rfl⟩;obtain⟨s,hs⟩:∃s:Nat,n%8=s:=⟨_,rfl⟩;have ab:j<16:=by omega
      have a7:s<8:=by omega
      have e1:(8:Int)+(n:Int)/8=(j:Int):=by omega
      rw[hs]at e2;rw[hj,hs]at a0;have Hn:=hid a0;clear a0 hj hs;generalize bitRow (fun k=>bits.getD k false) (Dm.flags false) n=R at*;have c0:=b0.byte j (by omega);have f0:=b0.frozen j;have b1:=CV b0 j (UInt8.ofNat ((R.getD j 0).toNat ||| 2^s));have a9:=hB.setCell (p:=⟨w1.heap.size,j,none⟩) ae (.int .u8 (UInt8.ofNat ((R.getD j 0).toNat ||| 2^s)).toNat);have x1:=x.other (a:=⟨w1.heap.size,j,none⟩) ac (.int .u8 (UInt8.ofNat ((R.getD j 0).toNat ||| 2^s)).toNat);have hv:=(R.getD j 0).toNat_lt;have hp:2^s<256:=Nat.pow_lt_pow_right (a:=2) (by omega) a7;have e3:IntKind.u8.wrap ((2:Int)^s)=((2^s:Nat):Int):=by
       rw[IntKind.wrap_u8',show((2:Int)^s)=((2^s:Nat):Int) by simp];exact Int.emod_eq_of_lt (Int.natCast_nonneg _) (Int.ofNat_lt.2 hp)
      have e4:Go.bits .or .u8 ((R.getD j 0).toNat:Int) ((2^s:Nat):Int)=((UInt8.ofNat ((R.getD j 0).toNat ||| 2^s)).toNat:Int):=by rw[u8_or_nat _ _ (by omega) (by omega),CY _ _ a7]
      generalize UInt8.ofNat ((R.getD j 0).toNat ||| 2^s)=X at*;generalize 2^s=p at*;generalize R.getD j 0=v at*;go_wp2_with fail
      go_region
      go_wp2_with fail
      go_roundw
      case rel=>exact⟨n+1,by omega,by go_num,by rw[Hn.out];exact b1.drew,x1.drew,a9.drew⟩
      case measure=>simp[intOf];omega
   · obtain rfl:n=64:=by omega
     have hR:bitRow (fun k=>bits.getD k false) (Dm.flags false) 64=TL:=a1.out.symm;rw[hR]at b0 ad;clear hR a1 a3;have aa:=run_convert_bytes_back (P:=Tryz.prog) wr 139 9 5 ⟨w1.heap.size,0,none⟩ 16 TL Tryz.underlying139 Tryz.underlying5 Tryz.underlying9 (fun i hi=>by
      rw[Bj,Nat.zero_add,b0.cell];simp[byteCells,hi])
     rw[ah]at aa;go_wp2_with fail
     refine(pp _).mono ?_;rintro e w2 ⟨rfl,hb2⟩;replace hB:=bt hB hb2;go_wp2_with fail
     go_ret2
     exact⟨⟨_,by rw[ag.out];rfl,fun h=>(af.out h).symm⟩,hB⟩
 |true=>
  have hB:=Y0 w;have x:=Blk.new w 42 (dmCells ⟨name,true,bits⟩).toArray;have xk:=Tryz.dm_all ⟨name,true,bits⟩ h64 x;have a5:=hB.alloc hB.size (.cells (dmCells ⟨name,true,bits⟩).toArray 42);go_enter Tryz.func76,Tryz.ntmps76;go_wp2_with (first|(refine AP rfl (dmval Dm.zero) (Tryz.run_dmz rfl _) ?_)|(refine AP rfl (.bool false) (Tryz.run_dm _ _ _ rfl ⟨name,true,bits⟩ Dm.zero rfl rfl hm h64 (by decide) rfl false (decide_eq_false hz) _) ?_))
  refine(cn _).mono ?_;rintro e w1 ⟨rfl,hb1⟩;replace hB:=bt a5 hb1;replace x:=x.below hb1 (by simp);have ai:=x.lt;have a8:=hB;have x0:=x;replace hB:=hB.alloc hB.size (.cells #[.int .u8 0,.int .u8 0,.int .u8 0,.int .u8 0,.int .u8 0,.int .u8 0,.int .u8 0,.int .u8 0,.int .u8 0,.int .u8 0,.int .u8 0,.int .u8 0,.int .u8 0,.int .u8 0,.int .u8 0,.int .u8 0] 167);replace x:=Yc x hB;have b0:Blk (w1.alloc (.cells #[.int .u8 0,.int .u8 0,.int .u8 0,.int .u8 0,.int .u8 0,.int .u8 0,.int .u8 0,.int .u8 0,.int .u8 0,.int .u8 0,.int .u8 0,.int .u8 0,.int .u8 0,.int .u8 0,.int .u8 0,.int .u8 0] 167)) w1.heap.size 167 (byteCells (List.replicate 16 0)):=Blk.new w1 167 #[.int .u8 0,.int .u8 0,.int .u8 0,.int .u8 0,.int .u8 0,.int .u8 0,.int .u8 0,.int .u8 0,.int .u8 0,.int .u8 0,.int .u8 0,.int .u8 0,.int .u8 0,.int .u8 0,.int .u8 0,.int .u8 0];have ae:w.heap.size<=w1.heap.size:=by omega
  replace xk:=Tryz.dm_all ⟨name,true,bits⟩ h64 x;have f0:=b0.frozen 0;have c0:=b0.byte 0 (by decide);go_wp2_with fail
  replace hB:=a8.alloc a8.size (.cells #[.int .u8 1,.int .u8 0,.int .u8 0,.int .u8 0,.int .u8 0,.int .u8 0,.int .u8 0,.int .u8 0,.int .u8 0,.int .u8 0,.int .u8 0,.int .u8 0,.int .u8 0,.int .u8 0,.int .u8 0,.int .u8 0] 167);replace x:=Yc x0 hB;clear b0;have b0:Blk (w1.alloc (.cells #[.int .u8 1,.int .u8 0,.int .u8 0,.int .u8 0,.int .u8 0,.int .u8 0,.int .u8 0,.int .u8 0,.int .u8 0,.int .u8 0,.int .u8 0,.int .u8 0,.int .u8 0,.int .u8 0,.int .u8 0,.int .u8 0] 167)) w1.heap.size 167 (byteCells (Dm.flags true)):=Blk.new w1 167 #[.int .u8 1,.int .u8 0,.int .u8 0,.int .u8 0,.int .u8 0,.int .u8 0,.int .u8 0,.int .u8 0,.int .u8 0,.int .u8 0,.int .u8 0,.int .u8 0,.int .u8 0,.int .u8 0,.int .u8 0,.int .u8 0];go_loopw [23] (fun k W=>∃n:Nat,n<=64/\k=.int .i64 n/\Blk W w1.heap.size 167 (byteCells (bitRow (fun k=>bits.getD k false) (Dm.flags true) n))/\Blk W w.heap.size 42 (dmCells ⟨name,true,bits⟩).toArray/\Below w.heap.size w W) (fun k _=>64-(intOf k).toNat)
  case atStart=>exact⟨0,Nat.zero_le _,rfl,b0,x,hB⟩
  case round=>
   clear xk x b0 hB;obtain⟨n,hn,rfl,b0,x,hB⟩:=hrel;have ac:w.heap.size≠w1.heap.size:=by omega
   have ad:(bitRow (fun k=>bits.getD k false) (Dm.flags true) n).length=16:=by rw[Cy,Dm.flags_length]
   by_cases hlt:n<64
   · have hk:=x.bit n (by rw[h64];exact hlt);have a0:=Cz (fun k=>bits.getD k false) (Dm.flags true) n;simp only[a3.out n hlt]at a0;simp only at hk;generalize bits[n]'(by omega)=b at hk a0;have e2:=and7 ⟨n,hlt⟩;simp only at e2;cases b with
     |false=>
      rw[if_neg (by decide)]at a0;have Hn:=hid a0;clear a0;go_wp2_with fail
      go_roundw
      case rel=>exact⟨n+1,by omega,by go_num,by rw[Hn.out];exact b0,x,hB⟩
      case measure=>simp[intOf];omega
     |true=>
      rw[if_pos rfl]at a0;obtain⟨j,hj⟩:∃j:Nat,8+n/8=j:=⟨_,rfl⟩;obtain⟨s,hs⟩:∃s:Nat,n%8=s:=⟨_,rfl⟩;have ab:j<16:=by omega
      have a7:s<8:=by omega
      have e1:(8:Int)+(n:Int)/8=(j:Int):=by omega
      rw[hs]at e2;rw[hj,hs]at a0;have Hn:=hid a0;clear a0 hj hs;generalize bitRow (fun k=>bits.getD k false) (Dm.flags true) n=R at*;have c0:=b0.byte j (by omega);have f0:=b0.frozen j;have b1:=CV b0 j (UInt8.ofNat ((R.getD j 0).toNat ||| 2^s));have a9:=hB.setCell (p:=⟨w1.heap.size,j,none⟩) ae (.int .u8 (UInt8.ofNat ((R.getD j 0).toNat ||| 2^s)).toNat);have x1:=x.other (a:=⟨w1.heap.size,j,none⟩) ac (.int .u8 (UInt8.ofNat ((R.getD j 0).toNat ||| 2^s)).toNat);have hv:=(R.getD j 0).toNat_lt;have hp:2^s<256:=Nat.pow_lt_pow_right (a:=2) (by omega) a7;have e3:IntKind.u8.wrap ((2:Int)^s)=((2^s:Nat):Int):=by
       rw[IntKind.wrap_u8',show((2:Int)^s)=((2^s:Nat):Int) by simp];exact Int.emod_eq_of_lt (Int.natCast_nonneg _) (Int.ofNat_lt.2 hp)
      have e4:Go.bits .or .u8 ((R.getD j 0).toNat:Int) ((2^s:Nat):Int)=((UInt8.ofNat ((R.getD j 0).toNat ||| 2^s)).toNat:Int):=by rw[u8_or_nat _ _ (by omega) (by omega),CY _ _ a7]
      generalize UInt8.ofNat ((R.getD j 0).toNat ||| 2^s)=X at*;generalize 2^s=p at*;generalize R.getD j 0=v at*;go_wp2_with fail
      go_region
      go_wp2_with fail
      go_roundw
      case rel=>exact⟨n+1,by omega,by go_num,by rw[Hn.out];exact b1.drew,x1.drew,a9.drew⟩
      case measure=>simp[intOf];omega
   · obtain rfl:n=64:=by omega
     have hR:bitRow (fun k=>bits.getD k false) (Dm.flags true) 64=TL:=a1.out.symm;rw[hR]at b0 ad;clear hR a1 a3;have aa:=run_convert_bytes_back (P:=Tryz.prog) wr 139 9 5 ⟨w1.heap.size,0,none⟩ 16 TL Tryz.underlying139 Tryz.underlying5 Tryz.underlying9 (fun i hi=>by
      rw[Bj,Nat.zero_add,b0.cell];simp[byteCells,hi])
     rw[ah]at aa;go_wp2_with fail
     refine(pp _).mono ?_;rintro e w2 ⟨rfl,hb2⟩;replace hB:=bt hB hb2;go_wp2_with fail
     go_ret2
     exact⟨⟨_,by rw[ag.out];rfl,fun h=>(af.out h).symm⟩,hB⟩
theorem Io (m:Dm)(h64:m.bits.length=64)(hm:m.name.length<=maxLen)(w:World):Calls Tryz.prog 76 #[dmval m] w fun e w'=>(∃b,e=.returned (.tuple #[.string (bs b),.bool m.ok])/\(m.ok=true->b=m.bytes))/\Below w.heap.size w w':=by
 by_cases hz:m=Dm.zero
 · subst hz;refine(Ip w).mono ?_;rintro e w' ⟨rfl,hb⟩;exact⟨⟨_,rfl,fun _=>rfl⟩,hb⟩
 · exact Pd m h64 hm hz w
theorem HJ (w:World):CR 74 #[dmval Dm.zero] w (.tuple #[.string (bs (List.replicate 64 0)),.bool true]):=by
 have c:=fun W=>HU 64 (by decide) W
 rw[show((64:Nat):Int)=64 from rfl]at c;have a1:=Tryz.dm_agg;have a2:=Tryz.dm_siz;generalize List.replicate 64 (0:UInt8)=T at*;have hB:=Y0 w;have x:=Blk.new w 42 (dmCells Dm.zero).toArray;have xk:=Tryz.dm_all Dm.zero rfl x;have a0:=hB.alloc hB.size (.cells (dmCells Dm.zero).toArray 42);go_enter Tryz.func74,Tryz.ntmps74;go_wp2_with (first|(go_at_call 72;refine(c _).mono ?_;rintro e w1 ⟨rfl,hb1⟩)|(refine AP rfl (dmval Dm.zero) (Tryz.run_dmz rfl _) ?_)|(refine AP rfl (.bool true) (Tryz.run_dm _ _ _ rfl Dm.zero Dm.zero rfl rfl (by decide) rfl (by decide) rfl true (decide_eq_true rfl) _) ?_))
 replace hB:=bt a0 hb1
 go_ret2
 exact⟨rfl,hB⟩
theorem Nx (m:Dm)(h64:m.bits.length=64)(hm:m.name.length<=maxLen)(hz:m≠Dm.zero)(w:World):Calls Tryz.prog 74 #[dmval m] w fun e w'=>(∃b,e=.returned (.tuple #[.string (bs b),.bool m.ok])/\(m.ok=true->b=m.bytes))/\Below w.heap.size w w':=by
 have cn:=fun W=>Oh m.name hm W
 obtain⟨N,en,hN⟩:∃N en,nameR m.name=(N,en):=⟨_,_,rfl⟩;rw[hN]at cn;simp only at cn;have a6:nameOk m.name=false->en≠0:=fun h=>by rw[nameR,if_neg (by rw[h];simp)]at hN;obtain⟨_,rfl⟩:=Prod.mk.inj hN;decide
 have a2:nameOk m.name=true->en=0/\N=m.name++List.replicate (8-m.name.length) 0:=fun h=>by rw[nameR,if_pos h]at hN;obtain⟨a,b⟩:=Prod.mk.inj hN;exact⟨b.symm,a.symm⟩
 have am:N.length<=8:=by
  cases h:nameOk m.name with
  |true=>rw[(a2 h).2];have:=Ch h;simp;omega
  |false=>rw[nameR,if_neg (by rw[h];simp)]at hN;obtain⟨rfl,_⟩:=Prod.mk.inj hN;simp
 have a9:=hid (show m.ok=decide (en=0) by
  rw[Dm.ok,decide_eq_false hz,Bool.false_or];cases h:nameOk m.name with
  |true=>rw[(a2 h).1];rfl
  |false=>exact(decide_eq_false (a6 h)).symm)
 have ai:=hid (fun(h:m.ok=true)=>show m.bytes=At (N++m.tail) by
  rw[Dm.bytes,if_neg hz];rw[Dm.ok,decide_eq_false hz,Bool.false_or]at h;rw[(a2 h).2])
 have pp:=fun W=>EV (N++m.tail) (by rw[List.length_append,Dm.tail_length];unfold maxLen;omega) 64 W
 have a7:(padR (N++m.tail) 64).1=At (N++m.tail):=by
  have:=Dm.tail_length m;rw[padR,if_neg (by rw[List.length_append];omega)];rfl
 rw[a7]at pp;have al:=Tryz.dm_agg;have an:=Tryz.dm_siz;have aj:=Dm.tail_length m;have a1:=hid (show m.tail=bitRow (fun k=>m.bits.getD k false) (Dm.flags m.use) 64 from rfl);generalize m.tail=TL at*;generalize m.bytes=BY at*;generalize m.ok=OK at*;clear a6 a2 hN a7;obtain⟨name,use,bits⟩:=m;simp only at h64 hm cn a1;have a4:=hid (fun(k:Nat)(hk:k<64)=>show bits.getD k false=bits[k]'(by omega) by rw[List.getD_eq_getElem?_getD,List.getElem?_eq_getElem (by omega)];rfl);by_cases hen:en=0
 case neg=>
  have n1:(en !=0)=true:=bne_iff_ne.2 hen;have Hf:=hid (show OK=false by rw[a9.out,decide_eq_false hen]);clear hen pp;have hB:=Y0 w;have x:=Blk.new w 42 (dmCells ⟨name,use,bits⟩).toArray;have xk:=Tryz.dm_all ⟨name,use,bits⟩ h64 x;have a3:=hB.alloc hB.size (.cells (dmCells ⟨name,use,bits⟩).toArray 42);go_enter Tryz.func74,Tryz.ntmps74;go_wp2_with (first|(refine AP rfl (dmval Dm.zero) (Tryz.run_dmz rfl _) ?_)|(refine AP rfl (.bool false) (Tryz.run_dm _ _ _ rfl ⟨name,use,bits⟩ Dm.zero rfl rfl hm h64 (by decide) rfl false (decide_eq_false hz) _) ?_))
  refine(cn _).mono ?_;rintro e w1 ⟨rfl,hb1⟩;replace hB:=bt a3 hb1;go_wp2_with fail
  go_ret2
  exact⟨⟨_,by rw[Hf.out];rfl,fun h=>absurd h (by rw[Hf.out];simp)⟩,hB⟩
 subst hen;obtain⟨i0,hi,hz0,hz1,hz2⟩:=info_parts Tryz.infoByte;have ae:=fun W=>BK (P:=Tryz.prog) 139 5 i0 (.int .u8 0) Tryz.underlying139 hi hz0 .i64 .i64 16 16 (Nat.le_refl _) (by rw[hz2];omega) (by omega) W
 rw[hz1,Nat.mul_one]at ae;have a5:madeCells (Value.int .u8 0).cells 16=byteCells (List.replicate 16 0):=by
  apply Array.toList_inj.1
  show(madeCells #[.int .u8 0] 16).toList=_;rw[toList_madeCells_one];simp[byteCells]
 rw[a5,show((16:Nat):Int)=16 from rfl]at ae;obtain⟨Z0,hZ0⟩:∃l:List UInt8,List.replicate 16 0=l:=⟨_,rfl⟩;rw[hZ0]at ae;have HZ:=hid (show Dm.flags false=Z0/\Dm.flags true=Z0.set 0 1 by rw[<-hZ0];exact⟨rfl,rfl⟩);have lZ:Z0.length=16:=by rw[<-hZ0];rfl
 clear hz0 hz1 hz2 hi a5 hZ0;cases use with
 |false=>
  have hB:=Y0 w;have x:=Blk.new w 42 (dmCells ⟨name,false,bits⟩).toArray;have xk:=Tryz.dm_all ⟨name,false,bits⟩ h64 x;have a3:=hB.alloc hB.size (.cells (dmCells ⟨name,false,bits⟩).toArray 42);go_enter Tryz.func74,Tryz.ntmps74;go_wp2_with (first|(refine AP rfl (dmval Dm.zero) (Tryz.run_dmz rfl _) ?_)|(refine AP rfl (.bool false) (Tryz.run_dm _ _ _ rfl ⟨name,false,bits⟩ Dm.zero rfl rfl hm h64 (by decide) rfl false (decide_eq_false hz) _) ?_))
  refine(cn _).mono ?_;rintro e w1 ⟨rfl,hb1⟩;replace hB:=bt a3 hb1;replace x:=x.below hb1 (by simp);have ak:=x.lt;have aa:=hB;have x0:=x;replace hB:=hB.alloc hB.size (.cells (byteCells Z0) 5);replace x:=Yc x hB;have b0:=Blk.new w1 5 (byteCells Z0);have ah:w.heap.size<=w1.heap.size:=by omega
  replace xk:=Tryz.dm_all ⟨name,false,bits⟩ h64 x;have f0:=b0.frozen 0;have c0:=b0.byte 0 (by omega);go_wp2_with fail
  replace b0:Blk (w1.alloc (.cells (byteCells Z0) 5)) w1.heap.size 5 (byteCells (Dm.flags false)):=by rw[HZ.out.1];exact b0
  go_loopw [7] (fun k W=>∃n:Nat,n<=64/\k=.int .i64 n/\Blk W w1.heap.size 5 (byteCells (bitRow (fun k=>bits.getD k false) (Dm.flags false) n))/\Blk W w.heap.size 42 (dmCells ⟨name,false,bits⟩).toArray/\Below w.heap.size w W) (fun k _=>64-(intOf k).toNat)
  case atStart=>exact⟨0,Nat.zero_le _,rfl,b0,x,hB⟩
  case round=>
   clear xk x b0 hB;obtain⟨n,hn,rfl,b0,x,hB⟩:=hrel;have af:w.heap.size≠w1.heap.size:=by omega
   have ag:(bitRow (fun k=>bits.getD k false) (Dm.flags false) n).length=16:=by rw[Cy,Dm.flags_length]
   by_cases hlt:n<64
   · have hk:=x.bit n (by rw[h64];exact hlt);have a0:=Cz (fun k=>bits.getD k false) (Dm.flags false) n;simp only[a4.out n hlt]at a0;simp only at hk;generalize bits[n]'(by omega)=b at hk a0;cases b with
     |false=>
      rw[if_neg (by decide)]at a0;have Hn:=hid a0;clear a0;go_wp2_with fail
      go_roundw
      case rel=>exact⟨n+1,by omega,by go_num,by rw[Hn.out];exact b0,x,hB⟩
      case measure=>simp[intOf];omega
     |true=>
      rw[if_pos rfl]at a0;obtain⟨j,hj⟩:∃j:Nat,8+n/8=j:=⟨_,rfl⟩;obtain⟨s,hs⟩:∃s:Nat,n%8=s:=⟨_,rfl⟩;have ad:j<16:=by omega
      have a8:s<8:=by omega
      have e1:(8:Int)+(n:Int)/8=(j:Int):=by omega
      have e2:(n:Int)%8=(s:Int):=by omega
      rw[hj,hs]at a0;have Hn:=hid a0;clear a0 hj hs;generalize bitRow (fun k=>bits.getD k false) (Dm.flags false) n=R at*;have c0:=b0.byte j (by omega);have f0:=b0.frozen j;have b1:=CV b0 j (UInt8.ofNat ((R.getD j 0).toNat ||| 2^s));have ab:=hB.setCell (p:=⟨w1.heap.size,j,none⟩) ah (.int .u8 (UInt8.ofNat ((R.getD j 0).toNat ||| 2^s)).toNat);have x1:=x.other (a:=⟨w1.heap.size,j,none⟩) af (.int .u8 (UInt8.ofNat ((R.getD j 0).toNat ||| 2^s)).toNat);have hv:=(R.getD j 0).toNat_lt;have hp:2^s<256:=Nat.pow_lt_pow_right (a:=2) (by omega) a8;have e3:IntKind.u8.wrap ((2:Int)^s)=((2^s:Nat):Int):=by
       rw[IntKind.wrap_u8',show((2:Int)^s)=((2^s:Nat):Int) by simp];exact Int.emod_eq_of_lt (Int.natCast_nonneg _) (Int.ofNat_lt.2 hp)
      have e4:Go.bits .or .u8 ((R.getD j 0).toNat:Int) ((2^s:Nat):Int)=((UInt8.ofNat ((R.getD j 0).toNat ||| 2^s)).toNat:Int):=by rw[u8_or_nat _ _ (by omega) (by omega),CY _ _ a8]
      generalize UInt8.ofNat ((R.getD j 0).toNat ||| 2^s)=X at*;generalize 2^s=p at*;generalize R.getD j 0=v at*;go_wp2_with fail
      go_region
      go_wp2_with fail
      go_roundw
      case rel=>exact⟨n+1,by omega,by go_num,by rw[Hn.out];exact b1.drew,x1.drew,ab.drew⟩
      case measure=>simp[intOf];omega
   · obtain rfl:n=64:=by omega
     have hR:bitRow (fun k=>bits.getD k false) (Dm.flags false) 64=TL:=a1.out.symm;rw[hR]at b0 ag;clear hR a1 a4;have ac:=run_convert_bytes_back (P:=Tryz.prog) wr 139 9 5 ⟨w1.heap.size,0,none⟩ 16 TL Tryz.underlying139 Tryz.underlying5 Tryz.underlying9 (fun i hi=>by
      rw[Bj,Nat.zero_add,b0.cell];simp[byteCells,hi])
     rw[aj]at ac;go_wp2_with fail
     refine(pp _).mono ?_;rintro e w2 ⟨rfl,hb2⟩;replace hB:=bt hB hb2;go_wp2_with fail
     go_ret2
     exact⟨⟨_,by rw[a9.out];rfl,fun h=>(ai.out h).symm⟩,hB⟩
 |true=>
  have hB:=Y0 w;have x:=Blk.new w 42 (dmCells ⟨name,true,bits⟩).toArray;have xk:=Tryz.dm_all ⟨name,true,bits⟩ h64 x;have a3:=hB.alloc hB.size (.cells (dmCells ⟨name,true,bits⟩).toArray 42);go_enter Tryz.func74,Tryz.ntmps74;go_wp2_with (first|(refine AP rfl (dmval Dm.zero) (Tryz.run_dmz rfl _) ?_)|(refine AP rfl (.bool false) (Tryz.run_dm _ _ _ rfl ⟨name,true,bits⟩ Dm.zero rfl rfl hm h64 (by decide) rfl false (decide_eq_false hz) _) ?_))
  refine(cn _).mono ?_;rintro e w1 ⟨rfl,hb1⟩;replace hB:=bt a3 hb1;replace x:=x.below hb1 (by simp);have ak:=x.lt;have aa:=hB;have x0:=x;replace hB:=hB.alloc hB.size (.cells (byteCells Z0) 5);replace x:=Yc x hB;have b0:=Blk.new w1 5 (byteCells Z0);have ah:w.heap.size<=w1.heap.size:=by omega
  replace xk:=Tryz.dm_all ⟨name,true,bits⟩ h64 x;have f0:=b0.frozen 0;have c0:=b0.byte 0 (by omega);go_wp2_with fail
  replace hB:=aa.alloc aa.size (.cells ((byteCells Z0).setIfInBounds 0 (.int .u8 1)) 5);replace x:=Yc x0 hB;clear b0;have b0:=Blk.new w1 5 ((byteCells Z0).setIfInBounds 0 (.int .u8 1));replace b0:Blk (w1.alloc (.cells ((byteCells Z0).setIfInBounds 0 (.int .u8 1)) 5)) w1.heap.size 5 (byteCells (Dm.flags true)):=by rw[HZ.out.2,<-FH];exact b0
  go_loopw [7] (fun k W=>∃n:Nat,n<=64/\k=.int .i64 n/\Blk W w1.heap.size 5 (byteCells (bitRow (fun k=>bits.getD k false) (Dm.flags true) n))/\Blk W w.heap.size 42 (dmCells ⟨name,true,bits⟩).toArray/\Below w.heap.size w W) (fun k _=>64-(intOf k).toNat)
  case atStart=>exact⟨0,Nat.zero_le _,rfl,b0,x,hB⟩
  case round=>
   clear xk x b0 hB;obtain⟨n,hn,rfl,b0,x,hB⟩:=hrel;have af:w.heap.size≠w1.heap.size:=by omega
   have ag:(bitRow (fun k=>bits.getD k false) (Dm.flags true) n).length=16:=by rw[Cy,Dm.flags_length]
   by_cases hlt:n<64
   · have hk:=x.bit n (by rw[h64];exact hlt);have a0:=Cz (fun k=>bits.getD k false) (Dm.flags true) n;simp only[a4.out n hlt]at a0;simp only at hk;generalize bits[n]'(by omega)=b at hk a0;cases b with
     |false=>
      rw[if_neg (by decide)]at a0;have Hn:=hid a0;clear a0;go_wp2_with fail
      go_roundw
      case rel=>exact⟨n+1,by omega,by go_num,by rw[Hn.out];exact b0,x,hB⟩
      case measure=>simp[intOf];omega
     |true=>
      rw[if_pos rfl]at a0;obtain⟨j,hj⟩:∃j:Nat,8+n/8=j:=⟨_,rfl⟩;obtain⟨s,hs⟩:∃s:Nat,n%8=s:=⟨_,rfl⟩;have ad:j<16:=by omega
      have a8:s<8:=by omega
      have e1:(8:Int)+(n:Int)/8=(j:Int):=by omega
      have e2:(n:Int)%8=(s:Int):=by omega
      rw[hj,hs]at a0;have Hn:=hid a0;clear a0 hj hs;generalize bitRow (fun k=>bits.getD k false) (Dm.flags true) n=R at*;have c0:=b0.byte j (by omega);have f0:=b0.frozen j;have b1:=CV b0 j (UInt8.ofNat ((R.getD j 0).toNat ||| 2^s));have ab:=hB.setCell (p:=⟨w1.heap.size,j,none⟩) ah (.int .u8 (UInt8.ofNat ((R.getD j 0).toNat ||| 2^s)).toNat);have x1:=x.other (a:=⟨w1.heap.size,j,none⟩) af (.int .u8 (UInt8.ofNat ((R.getD j 0).toNat ||| 2^s)).toNat);have hv:=(R.getD j 0).toNat_lt;have hp:2^s<256:=Nat.pow_lt_pow_right (a:=2) (by omega) a8;have e3:IntKind.u8.wrap ((2:Int)^s)=((2^s:Nat):Int):=by
       rw[IntKind.wrap_u8',show((2:Int)^s)=((2^s:Nat):Int) by simp];exact Int.emod_eq_of_lt (Int.natCast_nonneg _) (Int.ofNat_lt.2 hp)
      have e4:Go.bits .or .u8 ((R.getD j 0).toNat:Int) ((2^s:Nat):Int)=((UInt8.ofNat ((R.getD j 0).toNat ||| 2^s)).toNat:Int):=by rw[u8_or_nat _ _ (by omega) (by omega),CY _ _ a8]
      generalize UInt8.ofNat ((R.getD j 0).toNat ||| 2^s)=X at*;generalize 2^s=p at*;generalize R.getD j 0=v at*;go_wp2_with fail
      go_region
      go_wp2_with fail
      go_roundw
      case rel=>exact⟨n+1,by omega,by go_num,by rw[Hn.out];exact b1.drew,x1.drew,ab.drew⟩
      case measure=>simp[intOf];omega
   · obtain rfl:n=64:=by omega
     have hR:bitRow (fun k=>bits.getD k false) (Dm.flags true) 64=TL:=a1.out.symm;rw[hR]at b0 ag;clear hR a1 a4;have ac:=run_convert_bytes_back (P:=Tryz.prog) wr 139 9 5 ⟨w1.heap.size,0,none⟩ 16 TL Tryz.underlying139 Tryz.underlying5 Tryz.underlying9 (fun i hi=>by
      rw[Bj,Nat.zero_add,b0.cell];simp[byteCells,hi])
     rw[aj]at ac;go_wp2_with fail
     refine(pp _).mono ?_;rintro e w2 ⟨rfl,hb2⟩;replace hB:=bt hB hb2;go_wp2_with fail
     go_ret2
     exact⟨⟨_,by rw[a9.out];rfl,fun h=>(ai.out h).symm⟩,hB⟩
theorem HH (m:Dm)(h64:m.bits.length=64)(hm:m.name.length<=maxLen)(w:World):Calls Tryz.prog 74 #[dmval m] w fun e w'=>(∃b,e=.returned (.tuple #[.string (bs b),.bool m.ok])/\(m.ok=true->b=m.bytes))/\Below w.heap.size w w':=by
 by_cases hz:m=Dm.zero
 · subst hz;refine(HJ w).mono ?_;rintro e w' ⟨rfl,hb⟩;exact⟨⟨_,rfl,fun _=>rfl⟩,hb⟩
 · exact Nx m h64 hm hz w
def bitsTo (t:List UInt8)(n:Nat):List Bool:=(List.range n).map (Dm.bitAt t)++List.replicate (64-n) false
theorem Fv (t:List UInt8){n:Nat}(h:n<=64):(bitsTo t n).length=64:=by simp[bitsTo];omega
theorem Fw (t:List UInt8){n:Nat}(h:n<64):(bitsTo t n).set n (Dm.bitAt t n)=bitsTo t (n+1):=by
 unfold bitsTo;rw[List.set_append,if_neg (by simp),List.length_map,List.length_range,Nat.sub_self,List.range_succ,List.map_append,show 64-n=(64-(n+1))+1 by omega,List.replicate_succ,List.set_cons_zero,List.append_assoc];rfl
theorem Fu (t:List UInt8):bitsTo t 64=(List.range 64).map (Dm.bitAt t):=by simp[bitsTo]
theorem JA (v:UInt8){s:Nat}(hs:s<8):(Go.bits .and .u8 (v.toNat:Int) ((2^s:Nat):Int) !=0)=v.toNat.testBit s:=by
 have hv:=v.toNat_lt;have hp:2^s<256:=Nat.pow_lt_pow_right (a:=2) (by omega) hs;rw[u8_and_nat _ _ (by omega) hp,nat_bit,Nat.testBit_eq_decide_div_mod_eq];have h2:v.toNat/2^s%2=0\/v.toNat/2^s%2=1:=by omega
 rcases h2 with h|h
 · rw[h];simp
 · rw[h,Nat.one_mul,decide_eq_true rfl];exact bne_iff_ne.2 (by have:0<2^s:=Nat.two_pow_pos s;omega)
def Dm.read (t:List UInt8):Dm:=⟨(toNameR (t.take 8)).1,decide (t.getD 8 0=1),(List.range 64).map (Dm.bitAt t)⟩
theorem Dm.read_bits (t:List UInt8):(Dm.read t).bits.length=64:=by simp[Dm.read]
theorem Pc (t:List UInt8)(ht:t.length=64)(w:World):CR 108 #[.string (bs t)] w (dmval (Dm.read t)):=by
 have cn:=fun W=>Qx (t.take 8) (by rw[List.length_take];unfold maxLen;omega) W
 have a3:=hid (show Dm.read t=⟨(toNameR (t.take 8)).1,decide (t.getD 8 0=1),bitsTo t 64⟩ by rw[Dm.read,Fu]);generalize toNameR (t.take 8)=NE at*;obtain⟨nm,en⟩:=NE;simp only at cn a3;have h8:((((t[8]'(by omega)).toNat:Nat):Int)==1)=decide (t.getD 8 0=1):=by
  rw[List.getD_eq_getElem?_getD,List.getElem?_eq_getElem (by omega),Option.getD_some];generalize t[8]'(by omega)=c;by_cases h:c=1
  · subst h;rfl
  · rw[decide_eq_false h,beq_eq_false_iff_ne];intro h2;apply h;apply UInt8.toNat_inj.1;show c.toNat=1;omega
 generalize decide (t.getD 8 0=1)=us at*;have a8:=Tryz.dm_agg;have ac:=Tryz.dm_siz;have zc:=Tryz.dm_zeros;have a0:=hid (fun(n:Nat)(h:n<64)=>show Dm.bitAt t n=((t[16+n/8]'(by omega)).toNat).testBit (n%8) by rw[Dm.bitAt,List.getD_eq_getElem?_getD,List.getElem?_eq_getElem (by omega)];rfl);have hB:=Y0 w;have r:=Blk.new w 42 (dmCells Dm.zero).toArray;have a1:=hB.alloc hB.size (.cells (dmCells Dm.zero).toArray 42);have v:=Blk.new (w.alloc (.cells (dmCells Dm.zero).toArray 42)) 42 (dmCells Dm.zero).toArray;simp only[Ys]at v;have vk:=Tryz.dm_all Dm.zero rfl v;have a7:=v.fz;have a2:=a1.alloc a1.size (.cells (dmCells Dm.zero).toArray 42);have a6:=Yc r a2;go_enter Tryz.func108,Tryz.ntmps108;go_wp2_with fail
 refine((cn _)).mono ?_;rintro e w1 ⟨rfl,hb1⟩;replace hB:=bt a2 hb1;replace r:=a6.bl hb1;replace v:=v.bl hb1;replace vk:=Tryz.dm_all Dm.zero rfl v;replace a7:=v.fz;clear a1 a2 a6;go_wp2_with fail
 have v1:=BM (Fx v nm) us;have r1:=(r.other (a:=⟨w.heap.size+1,0,none⟩) (by show w.heap.size≠w.heap.size+1;omega) (.string (bs nm))).other (a:=⟨w.heap.size+1,1,none⟩) (by show w.heap.size≠w.heap.size+1;omega) (.bool us);have hB1:=((hB).setCell (p:=⟨w.heap.size+1,0,none⟩) (by show w.heap.size<=w.heap.size+1;omega) (.string (bs nm))).setCell (p:=⟨w.heap.size+1,1,none⟩) (by show w.heap.size<=w.heap.size+1;omega) (.bool us);go_loopw [16] (fun k W=>∃n:Nat,n<=64/\k=.int .i64 n/\Blk W (w.heap.size+1) 42 (dmCells ⟨nm,us,bitsTo t n⟩).toArray/\Blk W w.heap.size 42 (dmCells Dm.zero).toArray/\Below w.heap.size w W) (fun k _=>64-(intOf k).toNat)
 case atStart=>exact⟨0,Nat.zero_le _,rfl,v1,r1,hB1⟩
 case round=>
  clear vk a7 v r hB v1 r1 hB1;obtain⟨n,hn,rfl,v,r,hB⟩:=hrel;by_cases hlt:n<64
  · obtain⟨j,hj⟩:∃j:Nat,16+n/8=j:=⟨_,rfl⟩;obtain⟨s,hs⟩:∃s:Nat,n%8=s:=⟨_,rfl⟩;have hb:=a0.out n hlt;have e2:=and7 ⟨n,hlt⟩;simp only at e2;have a9:j<t.length:=by omega
    have aa:((j:Nat):Int)<64:=by omega
    have a5:s<8:=by omega
    have ab:((s:Nat):Int)<=8:=by omega
    have e1:(16:Int)+(n:Int)/8=(j:Int):=by omega
    have a4:=Fv t (n:=n) (by omega);obtain⟨o,c0⟩:∃o,wr.cell? ⟨w.heap.size+1,2+n,none⟩=some (.bool o):=⟨_,v.bit n (by show n<(bitsTo t n).length;omega)⟩;have f0:=v.frozen (2+n);have v1:=CU v n (Dm.bitAt t n);rw[Fw t hlt]at v1;have r1:=r.other (a:=⟨w.heap.size+1,2+n,none⟩) (by show w.heap.size≠w.heap.size+1;omega) (.bool (Dm.bitAt t n));have hB1:=hB.setCell (p:=⟨w.heap.size+1,2+n,none⟩) (by show w.heap.size<=w.heap.size+1;omega) (.bool (Dm.bitAt t n));have hp:2^s<256:=Nat.pow_lt_pow_right (a:=2) (by omega) a5;have e3:IntKind.u8.wrap ((2:Int)^s)=((2^s:Nat):Int):=by
     rw[IntKind.wrap_u8',show((2:Int)^s)=((2^s:Nat):Int) by simp];exact Int.emod_eq_of_lt (Int.natCast_nonneg _) (Int.ofNat_lt.2 hp)
    have e4:=JA (t[j]'a9) a5;rw[show(t[j]'a9).toNat.testBit s=Dm.bitAt t n by rw[hb];subst hj hs;rfl]at e4;rw[hs]at e2;generalize 2^s=p at*;generalize Dm.bitAt t n=b at*;have V1:=hid v1;clear hj hs hb v v1 a0 a4 hn;go_wp2_with fail
    go_region
    go_wp2_with fail
    go_roundw
    case rel=>exact⟨n+1,by omega,by go_num,V1.out.drew,r1.drew,hB1.drew⟩
    case measure=>simp[intOf];omega
  · obtain rfl:n=64:=by omega
    rw[<-a3.out]at v;have hM:=Dm.read_bits t;obtain⟨M,hMe⟩:∃M,Dm.read t=M:=⟨_,rfl⟩;rw[hMe]at v hM;have Hm:=hid hMe;clear hMe;have vk:=Tryz.dm_all M hM v;have st:=Tryz.dm_put (a:=Dm.zero) M hM rfl r;have hl:=AT hM;clear a3 a0;go_wp2_with fail
    have r1:=AN (a:=Dm.zero) r M rfl hM;have yy:=Tryz.dm_all M hM r1;have b8:=AM hB (g:=w.heap.size) (by omega) M;refine bodyPost_ret (v:=dmval M) (by simp[results,Tryz.results108,go_sem,yy,a8,ac]) rfl ?_;rw[Hm.out];exact⟨rfl,b8⟩
theorem I6 (l:List UInt8):(toNameR l).1.length<=8:=by
 unfold toNameR
 split
 · simp
 split
 · rename_i h;exact Ch h
 · simp
theorem Dm.of_read {t:List UInt8}(h:t≠List.replicate 64 0):Dm.of t=Dm.read t:=by rw[Dm.of,if_neg h];rfl
theorem Dm.read_name (t:List UInt8):(Dm.read t).name.length<=8:=I6 _
theorem O7 (D:Dk)(L:Pn)(p q p' q':Pl)(w:World)(hD:IsDk w D p q)(hL:IsPn w L p' q')(hf:D.fit=true)(hfl:L.Fit)(i:Nat)(hi:i<2):
 CR 107 #[dval D p q,pval L p' q',dmPlace i] w (.tuple #[dmval (Pn.dmGet D L i).1,.int .i64 (Pn.dmGet D L i).2]):=by
 have aF:=fun(W:World)(hb:Below w.heap.size w W)=>M4 D L p q p' q' W (hD.below hb) (hL.below hb) (4+i) ((Dk.fit_parts hf).2.2.1) (by have:=hfl.2.1;omega) hfl.1
 have a8:=Pn.look_full (k:=4+i) hf hfl;have hG:Pn.dmGet D L i=if(Pn.look D L (4+i)).2≠0 then(Dm.zero,(Pn.look D L (4+i)).2)else if Dm.good (Pn.look D L (4+i)).1=true then(Dm.of (Pn.look D L (4+i)).1,0)else(Dm.zero,14):=rfl
 obtain⟨S,hS⟩:∃S,Pn.look D L (4+i)=S:=⟨_,rfl⟩;obtain⟨s,er⟩:=S;rw[hS]at aF a8 hG;simp only at aF a8 hG;unfold dmPlace;generalize (4:Int)+(i:Int)=sec at*;have HG:=hid hG;have aq:=Tryz.dm_agg;have az:=Tryz.dm_siz;have zc:=Tryz.dm_zeros;have lz:=AT (m:=Dm.zero) rfl;clear hS hi hD hL hf hfl hG;obtain⟨A1,a1⟩:=p;obtain⟨A2,a2⟩:=q;obtain⟨B1,b1⟩:=p';obtain⟨B2,b2⟩:=q';have hB:=Y0 w;have x:=apc5 (Blk.new w 25) D A1 a1 A2 a2;have an:=Ya hB x;have z:=apc2 (Yd an 63) L B1 b1 B2 b2;simp only[Ys]at z;have ai:=Ya an z;have aJ:=Yc x ai;have pl:=Yd ai 160 #[.int .i64 sec,.int .i64 0,.int .i64 64,.func (.func 76) #[] #[],.func (.func 108) #[] #[]];simp only[Ys]at pl;have af:=blk5 pl;have ag:=Ya ai pl;have aK:=Yc aJ ag;have aM:=Yc z ag;have r:=Blk.new (((w.alloc (.cells #[.string (bs D.data),.slice A1 D.cache.length a1,.int .i64 D.fuse,.bool D.off,.slice A2 D.bad.length a2] 25)).alloc (.cells #[.slice B1 L.targets.length b1,.slice B2 L.data.length b2] 63)).alloc (.cells #[.int .i64 sec,.int .i64 0,.int .i64 64,.func (.func 76) #[] #[],.func (.func 108) #[] #[]] 160)) 42 (dmCells Dm.zero).toArray;simp only[Ys]at r;have ae:=ag.alloc ag.size (.cells (dmCells Dm.zero).toArray 42);have aL:=Yc aK ae;have aN:=Yc aM ae;have ak:=Yc pl ae;have v:=Blk.new ((((w.alloc (.cells #[.string (bs D.data),.slice A1 D.cache.length a1,.int .i64 D.fuse,.bool D.off,.slice A2 D.bad.length a2] 25)).alloc (.cells #[.slice B1 L.targets.length b1,.slice B2 L.data.length b2] 63)).alloc (.cells #[.int .i64 sec,.int .i64 0,.int .i64 64,.func (.func 76) #[] #[],.func (.func 108) #[] #[]] 160)).alloc (.cells (dmCells Dm.zero).toArray 42)) 42 (dmCells Dm.zero).toArray;simp only[Ys]at v;have vk:=Tryz.dm_all Dm.zero rfl v;have a5:=ae.alloc ae.size (.cells (dmCells Dm.zero).toArray 42);have aw:=Yc aL a5;have aA:=Yc aN a5;have al:=Yc ak a5;have ar:=Yc r a5;have n:=Blk.new (((((w.alloc (.cells #[.string (bs D.data),.slice A1 D.cache.length a1,.int .i64 D.fuse,.bool D.off,.slice A2 D.bad.length a2] 25)).alloc (.cells #[.slice B1 L.targets.length b1,.slice B2 L.data.length b2] 63)).alloc (.cells #[.int .i64 sec,.int .i64 0,.int .i64 64,.func (.func 76) #[] #[],.func (.func 108) #[] #[]] 160)).alloc (.cells (dmCells Dm.zero).toArray 42)).alloc (.cells (dmCells Dm.zero).toArray 42)) 42 (dmCells Dm.zero).toArray;simp only[Ys]at n;have nk:=Tryz.dm_all Dm.zero rfl n;have a0:=a5.alloc a5.size (.cells (dmCells Dm.zero).toArray 42);obtain⟨ax,ay⟩:=Z5 (Yc aw a0);obtain⟨aB,aC⟩:=Z2 (Yc aA a0);obtain⟨am,ao⟩:=Z5 (Yc al a0);have au:=Yc ar a0;have av:=Yc v a0;go_enter Tryz.func107,Tryz.ntmps107;go_wp2_with fail
 refine((aF _ a0)).mono ?_;rintro e w1 ⟨rfl,hb1⟩;replace hB:=bt a0 hb1;replace x:=ax.bl hb1;replace z:=aB.bl hb1;replace pl:=am.bl hb1;replace af:=blk5 pl;replace r:=au.bl hb1;replace v:=av.bl hb1;replace vk:=Tryz.dm_all Dm.zero rfl v;replace n:=n.bl hb1;replace nk:=Tryz.dm_all Dm.zero rfl n;clear an ai aJ ag aK aM ae aL aN ak a5 aw aA al ar a0 ay ax aC aB ao am au av;by_cases he:er=0
 · subst he;have hs:=a8 rfl;have e1:List.take 64 s=s:=List.take_of_length_le (by omega);have c1:¬s.length<64:=by omega
   have aD:=hid (show Pn.dmGet D L i=if Dm.good s=true then(Dm.of s,0)else(Dm.zero,14) by rw[HG.out];rfl);have aj:=fun W=>Tryz.strings_Trim_one (bs s) 0 (by decide) W (by rw[Ab];omega)
   rw[A9,Ad,Ad]at aj;replace aj:=fun W=>(aj W).mono (fun e w' h=>(⟨h.1,by rcases h.2 with rfl|rfl;exact Below.refl _ _;exact(Below.refl _ _).drew⟩:_/\Below W.heap.size W w'))
   clear HG a8;by_cases hz:s=List.replicate 64 0
   · have Hg:=hid (show Pn.dmGet D L i=(Dm.zero,0) by
      have h1:Dm.of s=Dm.zero:=by rw[Dm.of,if_pos hz]
      have h2:Dm.good s=true:=by rw[Dm.good,h1,hz];decide
      rw[aD.out,if_pos h2,h1])
     have h2:Lib.trimB s 0=[]:=by rw[hz];exact QE 64
     rw[h2]at aj;have ah:=fun W=>Ip W
     rw[<-hz]at ah;have d1:(s==s)=true:=beq_self_eq_true s;have d2:(s !=s)=false:=bne_self_eq_false s;clear hz h2 aD;go_wp2_with fail
     refine((aj _)).mono ?_;rintro e w2 ⟨rfl,hb2⟩;replace hB:=bt hB hb2;replace x:=x.bl hb2;replace z:=z.bl hb2;replace pl:=pl.bl hb2;replace af:=blk5 pl;replace r:=r.bl hb2;replace v:=v.bl hb2;replace vk:=Tryz.dm_all Dm.zero rfl v;replace n:=n.bl hb2;replace nk:=Tryz.dm_all Dm.zero rfl n;go_wp2_with fail
     refine((ah _)).mono ?_;rintro e w3 ⟨rfl,hb3⟩;replace hB:=bt hB hb3;replace x:=x.bl hb3;replace z:=z.bl hb3;replace pl:=pl.bl hb3;replace af:=blk5 pl;replace r:=r.bl hb3;replace v:=v.bl hb3;replace vk:=Tryz.dm_all Dm.zero rfl v;replace n:=n.bl hb3;replace nk:=Tryz.dm_all Dm.zero rfl n;have st:=Tryz.dm_put (a:=Dm.zero) Dm.zero rfl rfl r;go_wp2_with fail
     have yy:=Tryz.dm_all Dm.zero rfl (AN (a:=Dm.zero) r Dm.zero rfl rfl);have b8:=AM hB (g:=w.heap.size+1+1+1) (by omega) Dm.zero;refine bodyPost_ret (v:=.tuple #[dmval Dm.zero,.int .i64 0]) (by simp[results,Tryz.results107,go_sem,yy,aq,az]) rfl ?_;rw[Hg.out];exact⟨rfl,b8⟩
   · have aI:Lib.trimB s 0≠[]:=QD (by rw[hs];exact hz);have aE:=fun W=>Pc s hs W
     have hM:=Dm.read_bits s;have aH:(Dm.read s).name.length<=maxLen:=by have:=Dm.read_name s;unfold maxLen;omega
     have aG:=Dm.of_read hz;obtain⟨M,hMe⟩:∃M,Dm.read s=M:=⟨_,rfl⟩;rw[hMe]at aE hM aH aG;have lM:=AT hM;have ah:=fun W=>Io M hM aH W
     have ap:=hid (show Pn.dmGet D L i=if M.ok=true/\M.bytes=s then(M,0)else(Dm.zero,14) by
      rw[aD.out,Dm.good,aG];by_cases h1:M.ok=true
      · by_cases h2:M.bytes=s
        · rw[if_pos (by rw[h1,decide_eq_true h2];rfl),if_pos ⟨h1,h2⟩]
        · rw[if_neg (by rw[decide_eq_false h2];simp),if_neg (fun h=>h2 h.2)]
      · rw[if_neg (by simp[h1]),if_neg (fun h=>h1 h.1)])
     have aO:(Lib.trimB s 0==[])=false:=beq_eq_false_iff_ne.2 aI;generalize Lib.trimB s 0=tt at*;clear aI aD aG hMe hz;cases hk:M.ok with
     |false=>
      have Hg:=hid (show Pn.dmGet D L i=(Dm.zero,14) by rw[ap.out,if_neg (by rw[hk];simp)]);rw[hk]at ah;clear ap hk;go_wp2_with fail
      refine((aj _)).mono ?_;rintro e w2 ⟨rfl,hb2⟩;replace hB:=bt hB hb2;replace x:=x.bl hb2;replace z:=z.bl hb2;replace pl:=pl.bl hb2;replace af:=blk5 pl;replace r:=r.bl hb2;replace v:=v.bl hb2;replace vk:=Tryz.dm_all Dm.zero rfl v;replace n:=n.bl hb2;replace nk:=Tryz.dm_all Dm.zero rfl n;go_wp2_with fail
      refine((aE _)).mono ?_;rintro e w3 ⟨rfl,hb3⟩;replace hB:=bt hB hb3;replace x:=x.bl hb3;replace z:=z.bl hb3;replace pl:=pl.bl hb3;replace af:=blk5 pl;replace r:=r.bl hb3;replace v:=v.bl hb3;replace vk:=Tryz.dm_all Dm.zero rfl v;replace n:=n.bl hb3;replace nk:=Tryz.dm_all Dm.zero rfl n;have sv:=Tryz.dm_put (a:=Dm.zero) M hM rfl v;have a3:=AM hB (g:=w.heap.size+1+1+1+1) (by omega) M;have ac:=AG x (g:=w.heap.size+1+1+1+1) (by omega) M;have ad:=AG z (g:=w.heap.size+1+1+1+1) (by omega) M;obtain⟨a4,a6⟩:=Z5 (AG pl (g:=w.heap.size+1+1+1+1) (by omega) M);have aa:=AG r (g:=w.heap.size+1+1+1+1) (by omega) M;have a7:=AN v M rfl hM;have ab:=Tryz.dm_all M hM a7;have a9:=AG n (g:=w.heap.size+1+1+1+1) (by omega) M;go_wp2_with fail
      refine((ah _)).mono ?_;rintro e w4 ⟨⟨b,rfl,hbt⟩,hb4⟩;replace hB:=bt a3 hb4;replace x:=ac.bl hb4;replace z:=ad.bl hb4;replace pl:=a4.bl hb4;replace af:=blk5 pl;replace r:=aa.bl hb4;replace v:=a7.bl hb4;replace vk:=Tryz.dm_all M hM v;replace n:=a9.bl hb4;replace nk:=Tryz.dm_all Dm.zero rfl n;clear a3 ac ad a6 a4 aa ab a7 a9;clear hbt;have st:=Tryz.dm_put (a:=Dm.zero) Dm.zero rfl rfl r;go_wp2_with fail
      have yy:=Tryz.dm_all Dm.zero rfl (AN (a:=Dm.zero) r Dm.zero rfl rfl);have b8:=AM hB (g:=w.heap.size+1+1+1) (by omega) Dm.zero;refine bodyPost_ret (v:=.tuple #[dmval Dm.zero,.int .i64 14]) (by simp[results,Tryz.results107,go_sem,yy,aq,az]) rfl ?_;rw[Hg.out];exact⟨rfl,b8⟩
     |true=>
      rw[hk]at ah;obtain⟨T9,hT9⟩:∃T,M.bytes=T:=⟨_,rfl⟩;by_cases hq:T9=s
      · have Hg:=hid (show Pn.dmGet D L i=(M,0) by rw[ap.out,if_pos ⟨hk,hT9.trans hq⟩]);subst hq;have d2:(T9 !=T9)=false:=bne_self_eq_false T9;have d1:(T9==T9)=true:=beq_self_eq_true T9;rw[hT9]at ah;clear ap hk hT9;go_wp2_with fail
        refine((aj _)).mono ?_;rintro e w2 ⟨rfl,hb2⟩;replace hB:=bt hB hb2;replace x:=x.bl hb2;replace z:=z.bl hb2;replace pl:=pl.bl hb2;replace af:=blk5 pl;replace r:=r.bl hb2;replace v:=v.bl hb2;replace vk:=Tryz.dm_all Dm.zero rfl v;replace n:=n.bl hb2;replace nk:=Tryz.dm_all Dm.zero rfl n;go_wp2_with fail
        refine((aE _)).mono ?_;rintro e w3 ⟨rfl,hb3⟩;replace hB:=bt hB hb3;replace x:=x.bl hb3;replace z:=z.bl hb3;replace pl:=pl.bl hb3;replace af:=blk5 pl;replace r:=r.bl hb3;replace v:=v.bl hb3;replace vk:=Tryz.dm_all Dm.zero rfl v;replace n:=n.bl hb3;replace nk:=Tryz.dm_all Dm.zero rfl n;have sv:=Tryz.dm_put (a:=Dm.zero) M hM rfl v;have a3:=AM hB (g:=w.heap.size+1+1+1+1) (by omega) M;have ac:=AG x (g:=w.heap.size+1+1+1+1) (by omega) M;have ad:=AG z (g:=w.heap.size+1+1+1+1) (by omega) M;obtain⟨a4,a6⟩:=Z5 (AG pl (g:=w.heap.size+1+1+1+1) (by omega) M);have aa:=AG r (g:=w.heap.size+1+1+1+1) (by omega) M;have a7:=AN v M rfl hM;have ab:=Tryz.dm_all M hM a7;have a9:=AG n (g:=w.heap.size+1+1+1+1) (by omega) M;go_wp2_with fail
        refine((ah _)).mono ?_;rintro e w4 ⟨⟨b,rfl,hbt⟩,hb4⟩;replace hB:=bt a3 hb4;replace x:=ac.bl hb4;replace z:=ad.bl hb4;replace pl:=a4.bl hb4;replace af:=blk5 pl;replace r:=aa.bl hb4;replace v:=a7.bl hb4;replace vk:=Tryz.dm_all M hM v;replace n:=a9.bl hb4;replace nk:=Tryz.dm_all Dm.zero rfl n;clear a3 ac ad a6 a4 aa ab a7 a9;obtain rfl:b=T9:=hbt (by first|rfl|trivial);clear hbt;have st:=Tryz.dm_put (a:=Dm.zero) M hM rfl r;go_wp2_with fail
        have yy:=Tryz.dm_all M hM (AN (a:=Dm.zero) r M rfl hM);have b8:=AM hB (g:=w.heap.size+1+1+1) (by omega) M;refine bodyPost_ret (v:=.tuple #[dmval M,.int .i64 0]) (by simp[results,Tryz.results107,go_sem,yy,aq,az]) rfl ?_;rw[Hg.out];exact⟨rfl,b8⟩
      · have Hg:=hid (show Pn.dmGet D L i=(Dm.zero,14) by rw[ap.out,if_neg (fun h=>hq (hT9.symm.trans h.2))]);have d2:(T9 !=s)=true:=bne_iff_ne.2 hq;have d1:(T9==s)=false:=beq_eq_false_iff_ne.2 hq;rw[hT9]at ah;clear ap hk hT9 hq;go_wp2_with fail
        refine((aj _)).mono ?_;rintro e w2 ⟨rfl,hb2⟩;replace hB:=bt hB hb2;replace x:=x.bl hb2;replace z:=z.bl hb2;replace pl:=pl.bl hb2;replace af:=blk5 pl;replace r:=r.bl hb2;replace v:=v.bl hb2;replace vk:=Tryz.dm_all Dm.zero rfl v;replace n:=n.bl hb2;replace nk:=Tryz.dm_all Dm.zero rfl n;go_wp2_with fail
        refine((aE _)).mono ?_;rintro e w3 ⟨rfl,hb3⟩;replace hB:=bt hB hb3;replace x:=x.bl hb3;replace z:=z.bl hb3;replace pl:=pl.bl hb3;replace af:=blk5 pl;replace r:=r.bl hb3;replace v:=v.bl hb3;replace vk:=Tryz.dm_all Dm.zero rfl v;replace n:=n.bl hb3;replace nk:=Tryz.dm_all Dm.zero rfl n;have sv:=Tryz.dm_put (a:=Dm.zero) M hM rfl v;have a3:=AM hB (g:=w.heap.size+1+1+1+1) (by omega) M;have ac:=AG x (g:=w.heap.size+1+1+1+1) (by omega) M;have ad:=AG z (g:=w.heap.size+1+1+1+1) (by omega) M;obtain⟨a4,a6⟩:=Z5 (AG pl (g:=w.heap.size+1+1+1+1) (by omega) M);have aa:=AG r (g:=w.heap.size+1+1+1+1) (by omega) M;have a7:=AN v M rfl hM;have ab:=Tryz.dm_all M hM a7;have a9:=AG n (g:=w.heap.size+1+1+1+1) (by omega) M;go_wp2_with fail
        refine((ah _)).mono ?_;rintro e w4 ⟨⟨b,rfl,hbt⟩,hb4⟩;replace hB:=bt a3 hb4;replace x:=ac.bl hb4;replace z:=ad.bl hb4;replace pl:=a4.bl hb4;replace af:=blk5 pl;replace r:=aa.bl hb4;replace v:=a7.bl hb4;replace vk:=Tryz.dm_all M hM v;replace n:=a9.bl hb4;replace nk:=Tryz.dm_all Dm.zero rfl n;clear a3 ac ad a6 a4 aa ab a7 a9;obtain rfl:b=T9:=hbt (by first|rfl|trivial);clear hbt;have st:=Tryz.dm_put (a:=Dm.zero) Dm.zero rfl rfl r;go_wp2_with fail
        have yy:=Tryz.dm_all Dm.zero rfl (AN (a:=Dm.zero) r Dm.zero rfl rfl);have b8:=AM hB (g:=w.heap.size+1+1+1) (by omega) Dm.zero;refine bodyPost_ret (v:=.tuple #[dmval Dm.zero,.int .i64 14]) (by simp[results,Tryz.results107,go_sem,yy,aq,az]) rfl ?_;rw[Hg.out];exact⟨rfl,b8⟩
 · have n1:(er !=0)=true:=bne_iff_ne.2 he;have Hg:=hid (show Pn.dmGet D L i=(Dm.zero,er) by rw[HG.out,if_pos he]);clear he a8;have st:=Tryz.dm_put (a:=Dm.zero) Dm.zero rfl rfl r;go_wp2_with fail
   have yy:=Tryz.dm_all Dm.zero rfl (AN (a:=Dm.zero) r Dm.zero rfl rfl);have b8:=AM hB (g:=w.heap.size+1+1+1) (by omega) Dm.zero;refine bodyPost_ret (v:=.tuple #[dmval Dm.zero,.int .i64 er]) (by simp[results,Tryz.results107,go_sem,yy,aq,az]) rfl ?_;rw[Hg.out];exact⟨rfl,b8⟩
theorem Ga (D:Dk)(L:Pn)(i:Nat):(Pn.dmGet D L i).1.bits.length=64:=by
 unfold Pn.dmGet
 split
 · rfl
 split
 · exact Dm.bits_length _
 · rfl
theorem LB:∀(l:List Value)(k:Nat)(a:List Value),k+l.length=a.length->(l.zipIdx k).foldl (fun cs x=>cs.setIfInBounds x.2 x.1) a.toArray=(a.take k++l).toArray:=fun l=>by
 induction l with
 |nil=>intro k a h;simp at h;subst h;simp
 |cons v l ih=>
  intro k a h;rw[List.length_cons]at h;rw[List.zipIdx_cons,List.foldl_cons,List.setIfInBounds_toArray,ih (k+1) _ (by rw[List.length_set];omega)]
  congr 1
  rw[List.take_set,List.take_succ_eq_append_getElem (by omega),List.set_append,if_neg (by rw[List.length_take];omega),List.length_take,show k-min k a.length=0 by omega,List.set_cons_zero,List.append_assoc];rfl
theorem Bz {P:Program}{ops:Array Oper}{rest:List Oper}{o:Oper}{a:Act}{w w':World}{Q:Exit->Act->World->Prop}(hgd:o.guard=none)(v:Value)(hr:(execOp a.eval o).run P w=.ok (.value v) w')
 (h:wpList P ops Q rest (a.put o.dst v) w'):wpList P ops Q (o::rest) a w:=wpList_plain hgd fun K hK=>by unfold Oper.wp;rw[hr];exact hK _ _ h
theorem Tryz.infoDmap3:(Tryz.prog.info? 42).map (fun i=>(i.zero,i.size,i.bytes))=some (some (dmval Dm.zero),66,88):=by kernel_rfl
theorem Tryz.run_bsd {ρ:Operand->Value}{o:Oper}(x:Operand)(ho:o.op=.buildSlice 31 1 #[(0,x)])(m:Dm)(hm:m.bits.length=64)(hx:ρ x=dmval m)(w:World):
 (execOp ρ o).run Tryz.prog w=.ok (.value (.slice (some ⟨w.heap.size,0,none⟩) 1 1)) (w.alloc (.cells (dmCells m).toArray 42)):=by
 have a0:=Tryz.dm_siz;have hu:=run_underlying (P:=Tryz.prog) Tryz.underlying31 w;unfold execOp;simp[ho,Instr.buildSlice,hx,a0,hu,Sem.run_bind,Value.cells,Instr.fill,AT hm];have hf:=fun(f:Nat->Value)=>LB (dmCells m) 0 ((List.range dmN).map f) (by rw[AT hm];simp)
 have hr:Array.range dmN=(List.range dmN).toArray:=by simp
 simp only[List.take_zero,List.nil_append]at hf;rw[if_neg (by unfold dmN;omega),if_neg (by unfold dmN;omega),hr];simp only[List.map_toArray,hf];simp[newRow]
theorem O4 (D:Dk)(L:Pn)(p q p' q':Pl)(w:World)(hD:IsDk w D p q)(hL:IsPn w L p' q')(hf:D.fit=true)(hfl:L.Fit):
 Calls Tryz.prog 69 #[dval D p q,pval L p' q',.int .i64 2,.func (.func 70) #[] #[]] w fun e w'=>(∃v,e=.returned (.tuple #[v,.int .i64 (Pn.maps D L).2])/\w'.ownsRow w.heap.size 42 66 v (Pn.maps D L).1.length (dmRows (Pn.maps D L).1))/\Below w.heap.size w w':=by
 have a6:=hid (show Pn.maps D L=allN (Pn.dmGet D L) 2 from rfl);have Hg:=hid (fun(W:World)(hb:Below w.heap.size w W)(k:Nat)(hk:k<2)=>O7 D L p q p' q' W (hD.below hb) (hL.below hb) hf hfl k hk);obtain⟨i0,hi,hz0,hz1,hz2⟩:=info_parts Tryz.infoDmap3;have ad:=Tryz.dm_agg;have af:=Tryz.dm_siz;have zc:=Tryz.dm_zeros;clear hD hL hf hfl;obtain⟨A1,a1⟩:=p;obtain⟨A2,a2⟩:=q;obtain⟨B1,b1⟩:=p';obtain⟨B2,b2⟩:=q';go_enter Tryz.func69,Tryz.ntmps69;go_wp2_with fail
 have hB:=Y0 w;have x:=apc5 (Blk.new w 25) D A1 a1 A2 a2;have a5:=Ya hB x;have z:=apc2 (Yd a5 63) L B1 b1 B2 b2;simp only[Ys]at z;have a4:=Ya a5 z;have ab:=Yc x a4;generalize ((w.alloc (.cells #[.string (bs D.data),.slice A1 D.cache.length a1,.int .i64 D.fuse,.bool D.off,.slice A2 D.bad.length a2] 25)).alloc (.cells #[.slice B1 L.targets.length b1,.slice B2 L.data.length b2] 63))=V at a4 ab z ⊢;clear a5 hB x;have hB:=a4;have x:=ab;clear a4 ab;go_loopw [10,15] (fun l x W=>∃m:Nat,m<=2/\x=.int .i64 m/\Hid (∀i,i<m->(Pn.dmGet D L i).2=0)/\W.ownsRow V.heap.size 42 66 l m (dmRows ((List.range m).map fun i:Nat=>(Pn.dmGet D L i).1))/\Below V.heap.size V W) (fun _ x _=>2-(intOf x).toNat)
 case atStart=>exact⟨0,Nat.zero_le _,rfl,hid (fun i hi=>by omega),World.ownsRow_nil _ _ _ _,Below.refl _ _⟩
 case round=>
  obtain⟨m,hm,rfl,hok,hown,hb⟩:=hrel;have aa:=hB.trans (hb.mono hB.size);by_cases hlt:m<2
  · have a9:=fun W=>Pb m hlt W
    have a0:=fun(W:World)(h:Below wr.heap.size wr W)=>Hg.out W (bt aa h) m hlt
    obtain⟨⟨M,er⟩,hx⟩:∃X,Pn.dmGet D L m=X:=⟨_,rfl⟩;rw[hx]at a0;obtain⟨PL,hPL⟩:∃P,dmPlace m=P:=⟨_,rfl⟩;rw[hPL]at a0 a9;simp only at a0;have ac:=hid (fun(he:er≠0)=>show Pn.maps D L=([],er) by
     rw[a6.out,Fo (f:=Pn.dmGet D L) (n:=m) (Cw (fun i hi=>hok.out i hi)) (by rw[hx];exact he) 2 hlt,hx])
    have Hok2:=hid (fun(he:er=0)=>And.intro (show∀i,i<m+1->(Pn.dmGet D L i).2=0 from fun i hi=>by
     rcases Nat.lt_or_eq_of_le (Nat.le_of_lt_succ hi)with h|h
     · exact hok.out i h
     · rw[h,hx];exact he) (show dmRows ((List.range m).map fun i:Nat=>(Pn.dmGet D L i).1)++dmCells M=dmRows ((List.range (m+1)).map fun i:Nat=>(Pn.dmGet D L i).1) by rw[Bk,List.range_succ,List.map_append];simp[hx]))
    have hM:M.bits.length=64:=by have:=Ga D L m;rw[hx]at this;exact this
    have lM:=AT hM;have KX:=fun(W:World)(hW:Below wr.heap.size wr W)=>blk5 ((x.bl hb).below hW (x.bl hb).lt)
    have KZ:=fun(W:World)(hW:Below wr.heap.size wr W)=>blk2 ((z.bl hb).below hW (z.bl hb).lt)
    clear hx hok hPL;go_upto_region 5 with fail
    go_cut [12,13] (fun s12 s13 W=>∃g,s12=.pointer (some ⟨g,0,none⟩)/\s13=.int .i64 er/\wr.heap.size<=g/\Blk W g 42 (dmCells M).toArray/\Below wr.heap.size wr W)
    case first=>
     have s0:Below wr.heap.size wr wr.drew:=(Below.refl _ _).drew;refine AV (S:=fun W=>Below wr.heap.size wr W) (late:=fun _=>false) (by kernel_rfl) ?_;generalize wr.drew=U0 at s0 ⊢;simp only[Nat.reduceAdd,Yn];refine Yu 0 (some 19) (dval D ⟨A1,a1⟩ ⟨A2,a2⟩) rfl (by kernel_rfl) (fun _ _ _ h=>h) (fun W hW=>by have h:=KX W hW;go_simp) s0 ?_;simp only[Yf];refine Yu 1 (some 20) (pval L ⟨B1,b1⟩ ⟨B2,b2⟩) rfl (by kernel_rfl) (fun _ _ _ h=>h) (fun W hW=>by have h:=KZ W hW;go_simp) s0 ?_;simp only[Yf];refine Yt 2 21 (.func (.func 70) #[] #[]) rfl (by kernel_rfl) (fun _ _ _ h=>h) (fun W=>by first|rfl|go_simp) ?_;simp only[Yf];refine Yt 3 22 (.int .i64 (m:Int)) rfl (by kernel_rfl) (fun _ _ _ h=>h) (fun W=>by first|rfl|go_simp) ?_;simp only[Yf];refine Bq (i:=4) (k:=9) (by kernel_rfl) rfl rfl rfl rfl (fun K hK=>?_) (fun K hK=>?_)
     · skip
       refine oper_enter' (f:=70) (args:=#[.int .i64 (m:Int)]) (w':=U0) (by go_simp) ((a9 U0).mono ?_);rintro e U1 ⟨rfl,hb0⟩;refine⟨_,rfl,?_⟩;show K (Act.put _ (some 23) _) _;have s1:=bt s0 hb0;refine hK _ _ (fun _ _=>s1) ?_;simp only[Yf];refine Bq (i:=5) (k:=9) (by kernel_rfl) rfl rfl rfl rfl (fun K hK=>?_) (fun K hK=>?_)
       · skip
         refine oper_enter' (f:=107) (args:=#[dval D ⟨A1,a1⟩ ⟨A2,a2⟩,pval L ⟨B1,b1⟩ ⟨B2,b2⟩,PL]) (w':=U1) (by go_simp) ((a0 U1 s1).mono ?_);rintro e U2 ⟨rfl,hb1⟩;refine⟨_,rfl,?_⟩;show K (Act.put _ (some 24) _) _;have s2:=bt s1 hb1;refine hK _ _ (fun _ _=>s2) ?_;simp only[Yf];refine Yt 6 18 (.tuple #[dmval M,.int .i64 er]) rfl (by kernel_rfl) (fun _ _ _ h=>h) (fun W=>by first|rfl|go_simp) ?_;simp only[Yf];refine Yt 7 25 (dmval M) rfl (by kernel_rfl) (fun _ _ _ h=>h) (fun W=>by first|rfl|go_simp) ?_;simp only[Yf];refine Yt 8 26 (.int .i64 er) rfl (by kernel_rfl) (fun _ _ _ h=>h) (fun W=>by first|rfl|go_simp) ?_;simp only[Yf];refine Ak (i:=9) (by kernel_rfl) rfl rfl (fun K hK=>?_);refine AJ (v:=.pointer (some ⟨U2.heap.size,0,none⟩)) (w':=U2.alloc (.cells (dmCells Dm.zero).toArray 42)) (by go_simp) ?_;show K (Act.put _ (some 12) _) _;have s3:=s2.alloc s2.size (.cells (dmCells Dm.zero).toArray 42);have bz:=Blk.new U2 42 (dmCells Dm.zero).toArray;have a3:wr.heap.size<=U2.heap.size:=s2.size;refine hK _ _ (fun _ _=>s3) ?_;generalize U2.alloc (.cells (dmCells Dm.zero).toArray 42)=U3 at s3 bz ⊢;generalize U2.heap.size=gz at bz a3 ⊢;simp only[Yf];refine Ak (i:=10) (by kernel_rfl) rfl rfl (fun K hK=>?_);refine Ay (w':=U3.setCells gz 0 (dmCells M)) (by have st:=Tryz.dm_put (a:=Dm.zero) M hM rfl bz;go_simp) ?_;show K (Act.put _ none _) _;have a7:=AN (a:=Dm.zero) bz M rfl hM;have bw:=AM s3 a3 M;refine hK _ _ (fun _ _=>bw) ?_
         try simp only[Yf]
         refine Yt 11 13 (.int .i64 er) rfl (by kernel_rfl) (fun _ _ _ h=>h) (fun W=>by first|rfl|go_simp) ?_;simp only[Yf];refine AD (by kernel_rfl) ?_ _;go_wp2_with fail
         go_meet
         exact⟨gz,rfl,rfl,a3,a7,bw⟩
       · skip
         refine AJ (v:=.pointer (some ⟨U1.heap.size,0,none⟩)) (w':=U1.alloc (.cells (dmCells Dm.zero).toArray 42)) (by go_simp) ?_;show K (Act.put _ (some 12) _) _;have s2:=s1.alloc s1.size (.cells (dmCells Dm.zero).toArray 42);have bz:=Blk.new U1 42 (dmCells Dm.zero).toArray;have a3:wr.heap.size<=U1.heap.size:=s1.size;refine hK _ _ (fun _ _=>s2) ?_;generalize U1.alloc (.cells (dmCells Dm.zero).toArray 42)=U2 at s2 bz ⊢;generalize U1.heap.size=gz at bz a3 ⊢;simp only[Yf];refine Ak (i:=5) (by kernel_rfl) rfl rfl (fun K hK=>?_);refine oper_enter' (f:=107) (args:=#[dval D ⟨A1,a1⟩ ⟨A2,a2⟩,pval L ⟨B1,b1⟩ ⟨B2,b2⟩,PL]) (w':=U2) (by go_simp) ((a0 U2 s2).mono ?_);rintro e U3 ⟨rfl,hb2⟩;refine⟨_,rfl,?_⟩;show K (Act.put _ (some 24) _) _;have s3:=bt s2 hb2;replace bz:=bz.bl hb2;refine hK _ _ (fun _ _=>s3) ?_;simp only[Yf];refine Yt 6 18 (.tuple #[dmval M,.int .i64 er]) rfl (by kernel_rfl) (fun _ _ _ h=>h) (fun W=>by first|rfl|go_simp) ?_;simp only[Yf];refine Yt 7 25 (dmval M) rfl (by kernel_rfl) (fun _ _ _ h=>h) (fun W=>by first|rfl|go_simp) ?_;simp only[Yf];refine Yt 8 26 (.int .i64 er) rfl (by kernel_rfl) (fun _ _ _ h=>h) (fun W=>by first|rfl|go_simp) ?_;simp only[Yf];refine Ak (i:=10) (by kernel_rfl) rfl rfl (fun K hK=>?_);refine Ay (w':=U3.setCells gz 0 (dmCells M)) (by have st:=Tryz.dm_put (a:=Dm.zero) M hM rfl bz;go_simp) ?_;show K (Act.put _ none _) _;have a7:=AN (a:=Dm.zero) bz M rfl hM;have bw:=AM s3 a3 M;refine hK _ _ (fun _ _=>bw) ?_
         try simp only[Yf]
         refine Yt 11 13 (.int .i64 er) rfl (by kernel_rfl) (fun _ _ _ h=>h) (fun W=>by first|rfl|go_simp) ?_;simp only[Yf];refine AD (by kernel_rfl) ?_ _;go_wp2_with fail
         go_meet
         exact⟨gz,rfl,rfl,a3,a7,bw⟩
     · skip
       refine AJ (v:=.pointer (some ⟨U0.heap.size,0,none⟩)) (w':=U0.alloc (.cells (dmCells Dm.zero).toArray 42)) (by go_simp) ?_;show K (Act.put _ (some 12) _) _;have s1:=s0.alloc s0.size (.cells (dmCells Dm.zero).toArray 42);have bz:=Blk.new U0 42 (dmCells Dm.zero).toArray;have a3:wr.heap.size<=U0.heap.size:=s0.size;refine hK _ _ (fun _ _=>s1) ?_;generalize U0.alloc (.cells (dmCells Dm.zero).toArray 42)=U1 at s1 bz ⊢;generalize U0.heap.size=gz at bz a3 ⊢;simp only[Yf];refine Ak (i:=4) (by kernel_rfl) rfl rfl (fun K hK=>?_);refine oper_enter' (f:=70) (args:=#[.int .i64 (m:Int)]) (w':=U1) (by go_simp) ((a9 U1).mono ?_);rintro e U2 ⟨rfl,hb1⟩;refine⟨_,rfl,?_⟩;show K (Act.put _ (some 23) _) _;have s2:=bt s1 hb1;replace bz:=bz.bl hb1;refine hK _ _ (fun _ _=>s2) ?_;simp only[Yf];refine Ak (i:=5) (by kernel_rfl) rfl rfl (fun K hK=>?_);refine oper_enter' (f:=107) (args:=#[dval D ⟨A1,a1⟩ ⟨A2,a2⟩,pval L ⟨B1,b1⟩ ⟨B2,b2⟩,PL]) (w':=U2) (by go_simp) ((a0 U2 s2).mono ?_);rintro e U3 ⟨rfl,hb2⟩;refine⟨_,rfl,?_⟩;show K (Act.put _ (some 24) _) _;have s3:=bt s2 hb2;replace bz:=bz.bl hb2;refine hK _ _ (fun _ _=>s3) ?_;simp only[Yf];refine Yt 6 18 (.tuple #[dmval M,.int .i64 er]) rfl (by kernel_rfl) (fun _ _ _ h=>h) (fun W=>by first|rfl|go_simp) ?_;simp only[Yf];refine Yt 7 25 (dmval M) rfl (by kernel_rfl) (fun _ _ _ h=>h) (fun W=>by first|rfl|go_simp) ?_;simp only[Yf];refine Yt 8 26 (.int .i64 er) rfl (by kernel_rfl) (fun _ _ _ h=>h) (fun W=>by first|rfl|go_simp) ?_;simp only[Yf];refine Ak (i:=10) (by kernel_rfl) rfl rfl (fun K hK=>?_);refine Ay (w':=U3.setCells gz 0 (dmCells M)) (by have st:=Tryz.dm_put (a:=Dm.zero) M hM rfl bz;go_simp) ?_;show K (Act.put _ none _) _;have a7:=AN (a:=Dm.zero) bz M rfl hM;have bw:=AM s3 a3 M;refine hK _ _ (fun _ _=>bw) ?_
       try simp only[Yf]
       refine Yt 11 13 (.int .i64 er) rfl (by kernel_rfl) (fun _ _ _ h=>h) (fun W=>by first|rfl|go_simp) ?_;simp only[Yf];refine AD (by kernel_rfl) ?_ _;go_wp2_with fail
       go_meet
       exact⟨gz,rfl,rfl,a3,a7,bw⟩
    case rest=>
     obtain⟨g,rfl,rfl,hgw,bz,hbz⟩:=hcut;have ae:=Tryz.dm_all M hM bz;have bw:=bt aa hbz;by_cases he:er=0
     · subst he;have o2:=AB hown hbz;have b3:=hb.trans (hbz.mono hb.size);have l2:=b3.size;go_wp2_with (first|(refine Bz rfl _ (Tryz.run_bsd _ rfl M hM rfl _) ?_)|(at_builtin;refine wpList_append_own _ rfl _ _ 31 rfl V.heap.size 42 i0 (dmval Dm.zero) 66 88 Tryz.underlying31 hi hz0 hz1 hz2 rfl (by decide) _ _ _ rfl (o2.alloc _) ⟨wc.heap.size,0,none⟩ 1 1 (dmCells M) rfl (AA hM) (World.news_of_block (Blk.new wc 42 (dmCells M).toArray)) (AZ M) (by unfold maxLen;omega) (by omega) (by simp;omega) ?_;intro v5 w5 h5 gr5 _))
       have b5:=(b3.alloc b3.size (.cells (dmCells M).toArray 42)).trans (AW (o2.alloc (.cells (dmCells M).toArray 42)) gr5 (by simp;omega));go_roundw
       case rel=>exact⟨m+1,by omega,by go_num,hid (Hok2.out (by first|rfl|trivial)).1,by rw[<-(Hok2.out (by first|rfl|trivial)).2];exact h5,b5⟩
       case measure=>simp[intOf];omega
     · have n1:(er !=0)=true:=bne_iff_ne.2 he;have a8:=hid (ac.out he);clear he;go_wp2_with fail
       go_ret2
       rw[a8.out];exact⟨⟨_,rfl,World.ownsRow_nil _ _ _ _⟩,bw⟩
  · obtain rfl:m=2:=by omega
    have Hr:=hid (Fl hok.out);clear hok;go_wp2_with fail
    go_ret2
    rw[a6.out,Hr.out];refine⟨⟨_,rfl,?_⟩,aa⟩;simp only[List.length_map,List.length_range];exact Bc hown hB.size
theorem CN (D:Dk)(L:Pn)(p q p' q':Pl)(w:World)(hD:IsDk w D p q)(hL:IsPn w L p' q')(hf:D.fit=true)(hfl:L.Fit):
 Calls Tryz.prog 28 #[dval D p q,pval L p' q'] w fun e w'=>(∃v,e=.returned (.tuple #[v,.int .i64 (Pn.maps D L).2])/\w'.ownsRow w.heap.size 42 66 v (Pn.maps D L).1.length (dmRows (Pn.maps D L).1))/\Below w.heap.size w w':=by
 have a4:=fun(W:World)(hb:Below w.heap.size w W)=>O4 D L p q p' q' W (hD.below hb) (hL.below hb) hf hfl
 clear hD hL hf hfl;obtain⟨A1,a1⟩:=p;obtain⟨A2,a2⟩:=q;obtain⟨B1,b1⟩:=p';obtain⟨B2,b2⟩:=q';have hB:=Y0 w;have x:=apc5 (Blk.new w 25) D A1 a1 A2 a2;have a3:=Ya hB x;have z:=apc2 (Yd a3 63) L B1 b1 B2 b2;simp only[Ys]at z;have zk:=blk2 z;have a0:=Ya a3 z;obtain⟨a6,a5⟩:=Z5 (Yc x a0);go_enter Tryz.func28,Tryz.ntmps28;go_wp2_with fail
 refine((a4 _ a0)).mono ?_;rintro e w1 ⟨⟨v,rfl,hown⟩,hb1⟩;replace hB:=bt a0 hb1;replace x:=a6.bl hb1;replace z:=z.bl hb1;replace zk:=blk2 z;clear a3 a0 a5 a6;go_wp2_with fail
 go_ret2
 exact⟨⟨_,rfl,Bc hown (by simp;omega)⟩,hB⟩
theorem JB (v:UInt8){s:Nat}(hs:s<8):(Go.bits .and .u8 ((v.toNat/2^s:Nat):Int) 1==1)=v.toNat.testBit s:=by
 have hv:=v.toNat_lt;have hq:v.toNat/2^s<=v.toNat:=Nat.div_le_self _ _;rw[show(1:Int)=((1:Nat):Int)from rfl,u8_and_nat _ _ (by omega) (by omega),nat_mask1,Nat.testBit_eq_decide_div_mod_eq];have h2:v.toNat/2^s%2=0\/v.toNat/2^s%2=1:=by omega
 rcases h2 with h|h<;>rw[h]<;>rfl
theorem Dz (D:Dk)(L:Pn)(p q p' q':Pl)(w:World)(hD:IsDk w D p q)(hL:IsPn w L p' q')(hf:D.fit=true)(hfl:L.Fit):
 Calls Tryz.prog 32 #[dval D p q,pval L p' q'] w fun e w'=>(∃v,e=.returned (.tuple #[v,.int .i64 (Pn.maps D L).2])/\w'.ownsRow w.heap.size 42 66 v (Pn.maps D L).1.length (dmRows (Pn.maps D L).1))/\Below w.heap.size w w':=by
 have ai:=hid (show Pn.maps D L=allN (Pn.dmGet D L) 2 from rfl);have hg:=fun(W:World)(hb:Below w.heap.size w W)(k:Int)=>Co D L p q p' q' W (hD.below hb) (hL.below hb) k ((Dk.fit_parts hf).2.2.1) (by have:=hfl.2.1;omega) hfl.1
 have ab:=hid (fun k=>Pn.look_full (k:=k) hf hfl);obtain⟨i0,hi,hz0,hz1,hz2⟩:=info_parts Tryz.infoDmap3;have aH:=Tryz.dm_agg;have aJ:=Tryz.dm_siz;have zc:=Tryz.dm_zeros;have lz:=AT (m:=Dm.zero) rfl;clear hD hL hf hfl;obtain⟨A1,a1⟩:=p;obtain⟨A2,a2⟩:=q;obtain⟨B1,b1⟩:=p';obtain⟨B2,b2⟩:=q';go_enter Tryz.func32,Tryz.ntmps32;go_wp2_with fail
 have hB:=Y0 w;have x:=apc5 (Blk.new w 25) D A1 a1 A2 a2;have a3:=Ya hB x;have z:=apc2 (Yd a3 63) L B1 b1 B2 b2;simp only[Ys]at z;have a6:=Ya a3 z;have ax:=Yc x a6;generalize ((w.alloc (.cells #[.string (bs D.data),.slice A1 D.cache.length a1,.int .i64 D.fuse,.bool D.off,.slice A2 D.bad.length a2] 25)).alloc (.cells #[.slice B1 L.targets.length b1,.slice B2 L.data.length b2] 63))=V at a6 ax z ⊢;clear a3 hB x;have hB:=a6;have x:=ax;clear a6 ax;have vl:w.heap.size+1<V.heap.size:=z.lt;go_loopw [6,7] (fun l x W=>∃m:Nat,m<=2/\x=.int .i64 m/\Hid (∀i,i<m->(Pn.dmGet D L i).2=0)/\W.ownsRow V.heap.size 42 66 l m (dmRows ((List.range m).map fun i:Nat=>(Pn.dmGet D L i).1))/\Below V.heap.size V W) (fun _ x _=>2-(intOf x).toNat)
 case atStart=>exact⟨0,Nat.zero_le _,rfl,hid (fun i hi=>by omega),World.ownsRow_nil _ _ _ _,Below.refl _ _⟩
 case round=>
  obtain⟨m,hm,rfl,hok,hown,hb⟩:=hrel;have aj:=hB.trans (hb.mono hB.size);by_cases hlt:m<2
  · have am:=hg wr aj (4+m);have a0:=ab.out (4+m);have hG:Pn.dmGet D L m=if(Pn.look D L (4+m)).2≠0 then(Dm.zero,(Pn.look D L (4+m)).2)else if Dm.good (Pn.look D L (4+m)).1=true then(Dm.of (Pn.look D L (4+m)).1,0)else(Dm.zero,14):=rfl
    obtain⟨S,hS⟩:∃S,Pn.look D L (4+m)=S:=⟨_,rfl⟩;obtain⟨s,er⟩:=S;rw[hS]at am a0 hG;simp only at am a0 hG;have HG:=hid hG;have ar:=hid (fun S er2 (hg:Pn.dmGet D L m=(S,er2))(he:er2≠0)=>show Pn.maps D L=([],er2) by
     rw[ai.out,Fo (f:=Pn.dmGet D L) (n:=m) (Cw (fun i hi=>hok.out i hi)) (by rw[hg];exact he) 2 hlt,hg])
    have Hok2:=hid (fun S (hg:Pn.dmGet D L m=(S,0))=>And.intro (show∀i,i<m+1->(Pn.dmGet D L i).2=0 from fun i hi=>by
     rcases Nat.lt_or_eq_of_le (Nat.le_of_lt_succ hi)with h|h
     · exact hok.out i h
     · rw[h,hg]) (show dmRows ((List.range m).map fun i:Nat=>(Pn.dmGet D L i).1)++dmCells S=dmRows ((List.range (m+1)).map fun i:Nat=>(Pn.dmGet D L i).1) by rw[Bk,List.range_succ,List.map_append];simp[hg]))
    obtain⟨sec,hsec⟩:∃k:Int,(4:Int)+(m:Int)=k:=⟨_,rfl⟩;rw[hsec]at am;clear hS hok hg ab hG;have x1:=x.bl hb;have z1:=z.bl hb;have hB:=aj;have hR:=Y0 wr;have ag:=blk5 x1;have ah:=blk2 z1;go_wp2_with fail
    refine((am)).mono ?_;rintro e w1 ⟨rfl,hb1⟩;replace hB:=bt hB hb1;replace hR:=bt hR hb1;replace x1:=x1.bl hb1;replace ag:=blk5 x1;replace z1:=z1.bl hb1;replace ah:=blk2 z1;have ao:wr.heap.size<=w1.heap.size:=hb1.size;have aI:w.heap.size+2<=wr.heap.size:=by have:=hb.size;omega
    by_cases he:er=0
    · subst he;have hs:=a0 rfl;have c1:¬s.length<8:=by omega
      have al:=hid (show Pn.dmGet D L m=if Dm.good s=true then(Dm.of s,0)else(Dm.zero,14) by rw[HG.out];rfl);have ak:=fun W=>HU 64 (by decide) W
      rw[show((64:Nat):Int)=64 from rfl]at ak;clear HG a0;have v:=Blk.new w1 42 (dmCells Dm.zero).toArray;have vk:=Tryz.dm_all Dm.zero rfl v;have aq:=v.fz;have a3:=hB.alloc hB.size (.cells (dmCells Dm.zero).toArray 42);have a4:=hR.alloc hR.size (.cells (dmCells Dm.zero).toArray 42);have ad:=Yc x1 a4;have ae:=Yc z1 a4;have s0:=Tryz.dm_put (a:=Dm.zero) Dm.zero rfl rfl v;have a7:=AM a3 (g:=w1.heap.size) (by omega) Dm.zero;have a8:=AM a4 (g:=w1.heap.size) (by omega) Dm.zero;have a9:=AG ad (g:=w1.heap.size) (by omega) Dm.zero;have aa:=AG ae (g:=w1.heap.size) (by omega) Dm.zero;have ap:=AN v Dm.zero rfl rfl;by_cases hz:s=List.replicate 64 0
      · have Hg:=hid (show Pn.dmGet D L m=(Dm.zero,0) by
         have h1:Dm.of s=Dm.zero:=by rw[Dm.of,if_pos hz]
         have h2:Dm.good s=true:=by rw[Dm.good,h1,hz];decide
         rw[al.out,if_pos h2,h1])
        have a5:=fun W=>HJ W
        rw[<-hz]at a5 ak;have d1:(s==s)=true:=beq_self_eq_true s;have d2:(s !=s)=false:=bne_self_eq_false s;clear hz al;go_wp2_with (refine AP rfl (dmval Dm.zero) (Tryz.run_dmz rfl _) ?_)
        refine((ak _)).mono ?_;rintro e w2 ⟨rfl,hb2⟩;replace hB:=bt a7 hb2;replace hR:=bt a8 hb2;replace x1:=a9.bl hb2;replace ag:=blk5 x1;replace z1:=aa.bl hb2;replace ah:=blk2 z1;replace v:=ap.bl hb2;replace vk:=Tryz.dm_all Dm.zero rfl v;replace aq:=v.fz;clear a3 a4 ad ae a7 a8 a9 aa ap;go_wp2_with fail
        refine((a5 _)).mono ?_;rintro e w3 ⟨rfl,hb3⟩;replace hB:=bt hB hb3;replace hR:=bt hR hb3;replace x1:=x1.bl hb3;replace ag:=blk5 x1;replace z1:=z1.bl hb3;replace ah:=blk2 z1;replace v:=v.bl hb3;replace vk:=Tryz.dm_all Dm.zero rfl v;replace aq:=v.fz;have o2:=AB hown hR;have b3:=hb.trans (hR.mono hb.size);have l2:=b3.size;go_wp2_with (first|(refine Bz rfl _ (Tryz.run_bsd _ rfl Dm.zero rfl rfl _) ?_)|(at_builtin;refine wpList_append_own _ rfl _ _ 31 rfl V.heap.size 42 i0 (dmval Dm.zero) 66 88 Tryz.underlying31 hi hz0 hz1 hz2 rfl (by decide) _ _ _ rfl (o2.alloc _) ⟨w3.heap.size,0,none⟩ 1 1 (dmCells Dm.zero) rfl (AA rfl) (World.news_of_block (Blk.new w3 42 (dmCells Dm.zero).toArray)) (AZ Dm.zero) (by unfold maxLen;omega) (by omega) (by simp;omega) ?_;intro v5 w5 h5 gr5 _))
        have b5:=(b3.alloc b3.size (.cells (dmCells Dm.zero).toArray 42)).trans (AW (o2.alloc (.cells (dmCells Dm.zero).toArray 42)) gr5 (by simp;omega));go_roundw
        case rel=>exact⟨m+1,by omega,by go_num,hid (Hok2.out _ Hg.out).1,by rw[<-(Hok2.out _ Hg.out).2];exact h5,b5⟩
        case measure=>simp[intOf];omega
      · have aB:(s==List.replicate 64 0)=false:=beq_eq_false_iff_ne.2 hz;have aC:(s !=List.replicate 64 0)=true:=bne_iff_ne.2 hz;have aw:=Dm.of_read hz;have hM:=Dm.read_bits s;have az:(Dm.read s).name.length<=maxLen:=by have:=Dm.read_name s;unfold maxLen;omega
        have cn:=fun W=>(Oi (s.take 8) (by rw[List.length_take];unfold maxLen;omega) W).mono (fun e w' h=>(⟨h.1,by rw[<-h.2];exact Below.refl _ _⟩:_/\Below W.heap.size W w'))
        have an:Dm.read s=⟨(toNameR (s.take 8)).1,decide (s.getD 8 0=1),bitsTo s 64⟩:=by rw[Dm.read,Fu]
        generalize toNameR (s.take 8)=NE at*;obtain⟨nm,en⟩:=NE;simp only at cn an;have h8:((((s[8]'(by omega)).toNat:Nat):Int)==1)=decide (s.getD 8 0=1):=by
         rw[List.getD_eq_getElem?_getD,List.getElem?_eq_getElem (by omega),Option.getD_some];generalize s[8]'(by omega)=c;by_cases h:c=1
         · subst h;rfl
         · rw[decide_eq_false h,beq_eq_false_iff_ne];intro h2;apply h;apply UInt8.toNat_inj.1;show c.toNat=1;omega
        generalize decide (s.getD 8 0=1)=us at*;obtain⟨M,hMe⟩:∃M,Dm.read s=M:=⟨_,rfl⟩;rw[hMe]at hM az aw an;have a5:=fun W=>HH M hM az W
        have af:=hid (show Pn.dmGet D L m=if M.ok=true/\M.bytes=s then(M,0)else(Dm.zero,14) by
         rw[al.out,Dm.good,aw];by_cases h1:M.ok=true
         · by_cases h2:M.bytes=s
           · rw[if_pos (by rw[h1,decide_eq_true h2];rfl),if_pos ⟨h1,h2⟩]
           · rw[if_neg (by rw[decide_eq_false h2];simp),if_neg (fun h=>h2 h.2)]
         · rw[if_neg (by simp[h1]),if_neg (fun h=>h1 h.1)])
        have ay:=hid an;have ac:=hid (fun(n:Nat)(h:n<64)=>show Dm.bitAt s n=((s[16+n/8]'(by omega)).toNat).testBit (n%8) by rw[Dm.bitAt,List.getD_eq_getElem?_getD,List.getElem?_eq_getElem (by omega)];rfl);generalize List.replicate 64 (0:UInt8)=Z at ak aB aC;clear aw hMe hz al an;go_wp2_with (refine AP rfl (dmval Dm.zero) (Tryz.run_dmz rfl _) ?_)
        refine((ak _)).mono ?_;rintro e w2 ⟨rfl,hb2⟩;replace hB:=bt a7 hb2;replace hR:=bt a8 hb2;replace x1:=a9.bl hb2;replace ag:=blk5 x1;replace z1:=aa.bl hb2;replace ah:=blk2 z1;replace v:=ap.bl hb2;replace vk:=Tryz.dm_all Dm.zero rfl v;replace aq:=v.fz;clear a3 a4 ad ae a7 a8 a9 aa ap;go_wp2_with fail
        refine((cn _)).mono ?_;rintro e w3 ⟨rfl,hb3⟩;replace hB:=bt hB hb3;replace hR:=bt hR hb3;replace x1:=x1.bl hb3;replace ag:=blk5 x1;replace z1:=z1.bl hb3;replace ah:=blk2 z1;replace v:=v.bl hb3;replace vk:=Tryz.dm_all Dm.zero rfl v;replace aq:=v.fz;go_wp2_with fail
        obtain⟨wo,hwo⟩:∃x,x=wr:=⟨_,rfl⟩;subst hwo;obtain⟨g,hg⟩:∃x,w1.heap.size=x:=⟨_,rfl⟩;have v1:=BM (Fx v nm) us;have hR1:=((hR).setCell (p:=⟨w1.heap.size,0,none⟩) ao (.string (bs nm))).setCell (p:=⟨w1.heap.size,1,none⟩) ao (.bool us);simp only[hg]at v1 hR1 ao ⊢;clear v vk hB hR x1 z1 ag ah;go_loopw [11] (fun k W=>∃n:Nat,n<=64/\k=.int .i64 n/\Blk W g 42 (dmCells ⟨nm,us,bitsTo s n⟩).toArray/\Below wo.heap.size wo W) (fun k _=>64-(intOf k).toNat)
        case atStart=>exact⟨0,Nat.zero_le _,rfl,v1,hR1⟩
        case round=>
         clear v1 hR1;obtain⟨n,hn,rfl,v,hR⟩:=hrel;by_cases hn64:n<64
         · obtain⟨j,hj⟩:∃j:Nat,16+n/8=j:=⟨_,rfl⟩;obtain⟨q,hq⟩:∃q:Nat,n%8=q:=⟨_,rfl⟩;have aA:=ac.out n hn64;have aD:j<s.length:=by omega
           have aE:((j:Nat):Int)<64:=by omega
           have aF:q<8:=by omega
           have aG:((q:Nat):Int)<=8:=by omega
           have e1:(16:Int)+(n:Int)/8=(j:Int):=by omega
           have e2:(n:Int)%8=(q:Int):=by omega
           have av:=Fv s (n:=n) (by omega);obtain⟨o,c0⟩:∃o,wr.cell? ⟨g,2+n,none⟩=some (.bool o):=⟨_,v.bit n (by show n<(bitsTo s n).length;omega)⟩;have f0:=v.frozen (2+n);have v1:=CU v n (Dm.bitAt s n);rw[Fw s hn64]at v1;have hR1:=hR.setCell (p:=⟨g,2+n,none⟩) ao (.bool (Dm.bitAt s n));have e4:=JB (s[j]'aD) aF;have e3:((s[j]'aD).toNat:Int)/(2:Int)^q=(((s[j]'aD).toNat/2^q:Nat):Int):=by simp
           rw[show(s[j]'aD).toNat.testBit q=Dm.bitAt s n by rw[aA];subst hj hq;rfl]at e4;generalize (s[j]'aD).toNat/2^q=p9 at*;generalize Dm.bitAt s n=b at*;have V1:=hid v1;clear hj hq aA v v1 ac av hn;go_wp2_with fail
           go_roundw
           case rel=>exact⟨n+1,by omega,by go_num,V1.out,hR1⟩
           case measure=>simp[intOf];omega
         · obtain rfl:n=64:=by omega
           rw[<-ay.out]at v;clear ay ac;cases hk:M.ok with
           |false=>
            have Hg:=hid (show Pn.dmGet D L m=(Dm.zero,14) by rw[af.out,if_neg (by rw[hk];simp)]);rw[hk]at a5;clear af hk;have vk:=Tryz.dm_all M hM v;go_wp2_with fail
            refine((a5 _)).mono ?_;rintro e w6 ⟨⟨b,rfl,hbt⟩,hb6⟩;replace hR:=bt hR hb6;replace v:=v.bl hb6;replace vk:=Tryz.dm_all M hM v;clear hbt;go_wp2_with fail
            go_ret2
            rw[ar.out _ _ Hg.out (by decide)];exact⟨⟨_,rfl,World.ownsRow_nil _ _ _ _⟩,bt aj hR⟩
           |true=>
            rw[hk]at a5;obtain⟨T9,hT9⟩:∃T,M.bytes=T:=⟨_,rfl⟩;by_cases hq:T9=s
            · have Hg:=hid (show Pn.dmGet D L m=(M,0) by rw[af.out,if_pos ⟨hk,hT9.trans hq⟩]);subst hq;have d2:(T9 !=T9)=false:=bne_self_eq_false T9;have d1:(T9==T9)=true:=beq_self_eq_true T9;rw[hT9]at a5;clear af hk hT9;have vk:=Tryz.dm_all M hM v;go_wp2_with fail
              refine((a5 _)).mono ?_;rintro e w6 ⟨⟨b,rfl,hbt⟩,hb6⟩;replace hR:=bt hR hb6;replace v:=v.bl hb6;replace vk:=Tryz.dm_all M hM v;obtain rfl:b=T9:=hbt (by first|rfl|trivial);clear hbt;have o2:=AB hown hR;have b3:=hb.trans (hR.mono hb.size);have l2:=b3.size;go_wp2_with (first|(refine Bz rfl _ (Tryz.run_bsd _ rfl M hM rfl _) ?_)|(at_builtin;refine wpList_append_own _ rfl _ _ 31 rfl V.heap.size 42 i0 (dmval Dm.zero) 66 88 Tryz.underlying31 hi hz0 hz1 hz2 rfl (by decide) _ _ _ rfl (o2.alloc _) ⟨w6.heap.size,0,none⟩ 1 1 (dmCells M) rfl (AA hM) (World.news_of_block (Blk.new w6 42 (dmCells M).toArray)) (AZ M) (by unfold maxLen;omega) (by omega) (by simp;omega) ?_;intro v5 w5 h5 gr5 _))
              have b5:=(b3.alloc b3.size (.cells (dmCells M).toArray 42)).trans (AW (o2.alloc (.cells (dmCells M).toArray 42)) gr5 (by simp;omega));go_roundw
              case rel=>exact⟨m+1,by omega,by go_num,hid (Hok2.out _ Hg.out).1,by rw[<-(Hok2.out _ Hg.out).2];exact h5,b5⟩
              case measure=>simp[intOf];omega
            · have Hg:=hid (show Pn.dmGet D L m=(Dm.zero,14) by rw[af.out,if_neg (fun h=>hq (hT9.symm.trans h.2))]);have d2:(T9 !=s)=true:=bne_iff_ne.2 hq;have d1:(T9==s)=false:=beq_eq_false_iff_ne.2 hq;rw[hT9]at a5;clear af hk hT9 hq;have vk:=Tryz.dm_all M hM v;go_wp2_with fail
              refine((a5 _)).mono ?_;rintro e w6 ⟨⟨b,rfl,hbt⟩,hb6⟩;replace hR:=bt hR hb6;replace v:=v.bl hb6;replace vk:=Tryz.dm_all M hM v;obtain rfl:b=T9:=hbt (by first|rfl|trivial);clear hbt;go_wp2_with fail
              go_ret2
              rw[ar.out _ _ Hg.out (by decide)];exact⟨⟨_,rfl,World.ownsRow_nil _ _ _ _⟩,bt aj hR⟩
    · have n1:(er !=0)=true:=bne_iff_ne.2 he;have Hg:=hid (show Pn.dmGet D L m=(Dm.zero,er) by rw[HG.out,if_pos he]);have au:=hid (ar.out _ _ Hg.out he);clear he a0;go_wp2_with fail
      go_ret2
      rw[au.out];have bw:=hB;exact⟨⟨_,rfl,World.ownsRow_nil _ _ _ _⟩,bw⟩
  · obtain rfl:m=2:=by omega
    have Hr:=hid (Fl hok.out);clear hok;go_wp2_with fail
    go_ret2
    rw[ai.out,Hr.out];refine⟨⟨_,rfl,?_⟩,aj⟩;simp only[List.length_map,List.length_range];exact Bc hown hB.size
theorem EX (L:Pn)(p q:Pl)(w:World)(hL:IsPn w L p q)(ht:L.targets.length<=1000000)(he:L.targets.length=L.data.length)(i:Int)(m:Dm)(h64:m.bits.length=64)(hm:m.name.length<=maxLen)(hi64:okInt i):
 CX 38 #[pval L p q,.int .i64 i,dmval m] w (RetPn w.heap.size L p q (Pn.dmSet L i m)):=by
 have a8:=fun W=>Io m h64 hm W
 have Hz:=hid (fun(W:World)(hb:Below w.heap.size w W)=>hL.below hb);have ab:=fun(W:World)(hb:Below w.heap.size w W)(k:Int)(t:List UInt8)(h1: -9223372036854775808<=k/\k<=9223372036854775807)(h2:t.length<=9223372036854775807)=>M6 L p q W (hL.below hb) k h1 t h2 ht he
 have ad:=fun g (hg:w.heap.size<=g)=>hL.apart hg
 have aj:=Tryz.dm_agg;have ak:=Tryz.dm_siz;clear hL ht he;obtain⟨A1,a1⟩:=p;obtain⟨A2,a2⟩:=q;have hB:=Y0 w;obtain⟨z,zk⟩:=Z2 (apc2 (Blk.new w 63) L A1 a1 A2 a2);have a6:=Ya hB z;have y:=Blk.new (w.alloc (.cells #[.slice A1 L.targets.length a1,.slice A2 L.data.length a2] 63)) 42 (dmCells m).toArray;simp only[Ys]at y;have a3:=a6.alloc a6.size (.cells (dmCells m).toArray 42);obtain⟨aa,ac⟩:=Z2 (Yc z a3);by_cases h:i<0\/2<=i
 · have Hr:=hid (show Pn.dmSet L i m=(L,10) by rw[Pn.dmSet,if_pos h]);by_cases h0:i<0
   · have d0:decide (i<0)=true:=decide_eq_true h0;clear h a8 ab h0;go_enter Tryz.func38,Tryz.ntmps38;have r:=apc2 (Yd a3 63) L A1 a1 A2 a2;simp only[Ys]at r;have rk:=blk2 r;have a9:=r.fz;have a0:=Ya a3 r;have a7:=Yc aa a0;have a4:=Yc y a0;have a5:=Tryz.dm_all m h64 a4;have i2:=Hz.out _ a0;have b8:=a0;have yy:=rk;go_wp2_with fail
     rw[Hr.out];exact retPn i2 (fun g _ h=>h) b8 (by simp[results,Tryz.results38,go_sem,yy]) rfl
   · have d0:decide (i<0)=false:=decide_eq_false h0;have d1:decide ((2:Int)<=i)=true:=decide_eq_true (by omega);clear h a8 ab h0;go_enter Tryz.func38,Tryz.ntmps38;have r:=apc2 (Yd a3 63) L A1 a1 A2 a2;simp only[Ys]at r;have rk:=blk2 r;have a9:=r.fz;have a0:=Ya a3 r;have a7:=Yc aa a0;have a4:=Yc y a0;have a5:=Tryz.dm_all m h64 a4;have i2:=Hz.out _ a0;have b8:=a0;have yy:=rk;go_wp2_with fail
     rw[Hr.out];exact retPn i2 (fun g _ h=>h) b8 (by simp[results,Tryz.results38,go_sem,yy]) rfl
 · have d0:decide (i<0)=false:=decide_eq_false (by omega);have d1:decide ((2:Int)<=i)=false:=decide_eq_false (by omega);cases hk:m.ok with
   |false=>
    have Hr:=hid (show Pn.dmSet L i m=(L,25) by rw[Pn.dmSet,if_neg h,if_pos hk]);rw[hk]at a8;clear h ab hk;have r:=Yd a3 63 #[.slice none 0 0,.slice none 0 0];simp only[Ys]at r;have rk:=blk2 r;have a9:=r.fz;have a0:=Ya a3 r;have a7:=Yc aa a0;have a4:=Yc y a0;have a5:=Tryz.dm_all m h64 a4;go_enter Tryz.func38,Tryz.ntmps38;go_wp2_with fail
    refine((a8 _)).mono ?_;rintro e w1 ⟨⟨b,rfl,_⟩,hb1⟩;replace hB:=bt a0 hb1;replace z:=a7.bl hb1;replace zk:=blk2 z;replace y:=a4.bl hb1;replace r:=r.bl hb1;replace rk:=blk2 r;replace a9:=r.fz;clear a6 a3 ac aa a0 a7 a5 a4;have ag:=r.lt;have i0:=Hz.out _ hB;have yy:=blk2 (ap2 (Aj r) L A1 a1 A2 a2);have i2:=ap2 (i0.off2 (g:=w.heap.size+1+1) (ad _ (by omega))) L A1 a1 A2 a2;have b8:=ap2 (Ae hB (g:=w.heap.size+1+1) (by omega)) L A1 a1 A2 a2;go_wp2_with fail
    rw[Hr.out];exact retPn i2 (fun g _ h=>h) b8 (by simp[results,Tryz.results38,go_sem,yy]) rfl
   |true=>
    have ae:=Dm.bytes_length hk;obtain⟨a,e1⟩:∃a:Int,4+i=a:=⟨_,rfl⟩;have Hr:=hid (show Pn.dmSet L i m=L.set a m.bytes by rw[Pn.dmSet,if_neg h,if_neg (by rw[hk];simp),e1]);rw[hk]at a8;have af:=fun(W:World)(hb:Below w.heap.size w W)=>ab W hb a m.bytes (by omega) (by rw[ae];decide)
    have ah: -9223372036854775808<=a/\a<=9223372036854775807:=by omega
    generalize m.bytes=T at*;generalize L.set a T=X at*;clear h ab hk;have r:=Yd a3 63 #[.slice none 0 0,.slice none 0 0];simp only[Ys]at r;have rk:=blk2 r;have a9:=r.fz;have a0:=Ya a3 r;have a7:=Yc aa a0;have a4:=Yc y a0;have a5:=Tryz.dm_all m h64 a4;go_enter Tryz.func38,Tryz.ntmps38;go_wp2_with fail
    refine((a8 _)).mono ?_;rintro e w1 ⟨⟨b,rfl,hbt⟩,hb1⟩;replace hB:=bt a0 hb1;replace z:=a7.bl hb1;replace zk:=blk2 z;replace y:=a4.bl hb1;replace r:=r.bl hb1;replace rk:=blk2 r;replace a9:=r.fz;clear a6 a3 ac aa a0 a7 a5 a4;have ag:=r.lt;obtain rfl:b=T:=hbt (by first|rfl|trivial);clear hbt;go_wp2_with fail
    refine((af _ hB)).mono ?_;rintro e w3 ⟨⟨p3,q3,rfl,i3,o3⟩,hb3⟩;replace hB:=bt hB hb3;replace z:=z.bl hb3;replace zk:=blk2 z;replace y:=y.bl hb3;replace r:=r.bl hb3;replace rk:=blk2 r;replace a9:=r.fz;have ai:=o3 (w.heap.size+1+1) (by omega) (ad _ (by omega));go_wp2_with fail
    have yy:=blk2 (ap2 (Aj r) X.1 p3.a p3.c q3.a q3.c);have i4:=ap2 (i3.off2 ai) X.1 p3.a p3.c q3.a q3.c;have b8:=ap2 (Ae hB (g:=w.heap.size+1+1) (by omega)) X.1 p3.a p3.c q3.a q3.c;rw[Hr.out];exact retPn i4 (fun g h1 h2=>o3 g (by omega) h2) b8 (by simp[results,Tryz.results38,go_sem,yy]) rfl
theorem DA (L:Pn)(p q:Pl)(w:World)(hL:IsPn w L p q)(ht:L.targets.length<=1000000)(he:L.targets.length=L.data.length)(i:Int)(m:Dm)(h64:m.bits.length=64)(hm:m.name.length<=maxLen)(hi64:okInt i):
 CX 33 #[pval L p q,.int .i64 i,dmval m] w (RetPn w.heap.size L p q (Pn.dmSet L i m)):=by
 have a8:=fun W=>HH m h64 hm W
 have Hz:=hid (fun(W:World)(hb:Below w.heap.size w W)=>hL.below hb);have ab:=fun(W:World)(hb:Below w.heap.size w W)(k:Int)(t:List UInt8)(h1: -9223372036854775808<=k/\k<=9223372036854775807)(h2:t.length<=9223372036854775807)=>Cp L p q W (hL.below hb) k h1 t h2 ht he
 have ad:=fun g (hg:w.heap.size<=g)=>hL.apart hg
 have aj:=Tryz.dm_agg;have ak:=Tryz.dm_siz;clear hL ht he;obtain⟨A1,a1⟩:=p;obtain⟨A2,a2⟩:=q;have hB:=Y0 w;obtain⟨z,zk⟩:=Z2 (apc2 (Blk.new w 63) L A1 a1 A2 a2);have a6:=Ya hB z;have y:=Blk.new (w.alloc (.cells #[.slice A1 L.targets.length a1,.slice A2 L.data.length a2] 63)) 42 (dmCells m).toArray;simp only[Ys]at y;have a3:=a6.alloc a6.size (.cells (dmCells m).toArray 42);obtain⟨aa,ac⟩:=Z2 (Yc z a3);by_cases h:i<0\/2<=i
 · have Hr:=hid (show Pn.dmSet L i m=(L,10) by rw[Pn.dmSet,if_pos h]);by_cases h0:i<0
   · have d0:decide (i<0)=true:=decide_eq_true h0;clear h a8 ab h0;go_enter Tryz.func33,Tryz.ntmps33;have r:=apc2 (Yd a3 63) L A1 a1 A2 a2;simp only[Ys]at r;have rk:=blk2 r;have a9:=r.fz;have a0:=Ya a3 r;have a7:=Yc aa a0;have a4:=Yc y a0;have a5:=Tryz.dm_all m h64 a4;have i2:=Hz.out _ a0;have b8:=a0;have yy:=rk;go_wp2_with fail
     rw[Hr.out];exact retPn i2 (fun g _ h=>h) b8 (by simp[results,Tryz.results33,go_sem,yy]) rfl
   · have d0:decide (i<0)=false:=decide_eq_false h0;have d1:decide ((2:Int)<=i)=true:=decide_eq_true (by omega);clear h a8 ab h0;go_enter Tryz.func33,Tryz.ntmps33;have r:=apc2 (Yd a3 63) L A1 a1 A2 a2;simp only[Ys]at r;have rk:=blk2 r;have a9:=r.fz;have a0:=Ya a3 r;have a7:=Yc aa a0;have a4:=Yc y a0;have a5:=Tryz.dm_all m h64 a4;have i2:=Hz.out _ a0;have b8:=a0;have yy:=rk;go_wp2_with fail
     rw[Hr.out];exact retPn i2 (fun g _ h=>h) b8 (by simp[results,Tryz.results33,go_sem,yy]) rfl
 · have d0:decide (i<0)=false:=decide_eq_false (by omega);have d1:decide ((2:Int)<=i)=false:=decide_eq_false (by omega);cases hk:m.ok with
   |false=>
    have Hr:=hid (show Pn.dmSet L i m=(L,25) by rw[Pn.dmSet,if_neg h,if_pos hk]);rw[hk]at a8;clear h ab hk;have r:=Yd a3 63 #[.slice none 0 0,.slice none 0 0];simp only[Ys]at r;have rk:=blk2 r;have a9:=r.fz;have a0:=Ya a3 r;have a7:=Yc aa a0;have a4:=Yc y a0;have a5:=Tryz.dm_all m h64 a4;go_enter Tryz.func33,Tryz.ntmps33;go_wp2_with fail
    refine((a8 _)).mono ?_;rintro e w1 ⟨⟨b,rfl,_⟩,hb1⟩;replace hB:=bt a0 hb1;replace z:=a7.bl hb1;replace zk:=blk2 z;replace y:=a4.bl hb1;replace r:=r.bl hb1;replace rk:=blk2 r;replace a9:=r.fz;clear a6 a3 ac aa a0 a7 a5 a4;have ag:=r.lt;have i0:=Hz.out _ hB;have yy:=blk2 (ap2 (Aj r) L A1 a1 A2 a2);have i2:=ap2 (i0.off2 (g:=w.heap.size+1+1) (ad _ (by omega))) L A1 a1 A2 a2;have b8:=ap2 (Ae hB (g:=w.heap.size+1+1) (by omega)) L A1 a1 A2 a2;go_wp2_with fail
    rw[Hr.out];exact retPn i2 (fun g _ h=>h) b8 (by simp[results,Tryz.results33,go_sem,yy]) rfl
   |true=>
    have ae:=Dm.bytes_length hk;obtain⟨a,e1⟩:∃a:Int,4+i=a:=⟨_,rfl⟩;have Hr:=hid (show Pn.dmSet L i m=L.set a m.bytes by rw[Pn.dmSet,if_neg h,if_neg (by rw[hk];simp),e1]);rw[hk]at a8;have af:=fun(W:World)(hb:Below w.heap.size w W)=>ab W hb a m.bytes (by omega) (by rw[ae];decide)
    have ah: -9223372036854775808<=a/\a<=9223372036854775807:=by omega
    generalize m.bytes=T at*;generalize L.set a T=X at*;clear h ab hk;have r:=Yd a3 63 #[.slice none 0 0,.slice none 0 0];simp only[Ys]at r;have rk:=blk2 r;have a9:=r.fz;have a0:=Ya a3 r;have a7:=Yc aa a0;have a4:=Yc y a0;have a5:=Tryz.dm_all m h64 a4;go_enter Tryz.func33,Tryz.ntmps33;go_wp2_with fail
    refine((a8 _)).mono ?_;rintro e w1 ⟨⟨b,rfl,hbt⟩,hb1⟩;replace hB:=bt a0 hb1;replace z:=a7.bl hb1;replace zk:=blk2 z;replace y:=a4.bl hb1;replace r:=r.bl hb1;replace rk:=blk2 r;replace a9:=r.fz;clear a6 a3 ac aa a0 a7 a5 a4;have ag:=r.lt;obtain rfl:b=T:=hbt (by first|rfl|trivial);clear hbt;go_wp2_with fail
    refine((af _ hB)).mono ?_;rintro e w3 ⟨⟨p3,q3,rfl,i3,o3⟩,hb3⟩;replace hB:=bt hB hb3;replace z:=z.bl hb3;replace zk:=blk2 z;replace y:=y.bl hb3;replace r:=r.bl hb3;replace rk:=blk2 r;replace a9:=r.fz;have ai:=o3 (w.heap.size+1+1) (by omega) (ad _ (by omega));go_wp2_with fail
    have yy:=blk2 (ap2 (Aj r) X.1 p3.a p3.c q3.a q3.c);have i4:=ap2 (i3.off2 ai) X.1 p3.a p3.c q3.a q3.c;have b8:=ap2 (Ae hB (g:=w.heap.size+1+1) (by omega)) X.1 p3.a p3.c q3.a q3.c;rw[Hr.out];exact retPn i4 (fun g h1 h2=>o3 g (by omega) h2) b8 (by simp[results,Tryz.results33,go_sem,yy]) rfl
end
section
open Go.RowKit Go.Shelf
attribute [local go_sem] Ad Af Ag Ab Ai Ah Oper.semAt_some
def Pn.secs (L:Pn):List (Int×List UInt8):=L.targets.zip L.data
def secEnc (Z:List (Int×List UInt8))(i:Fin Z.length):Array Value:=#[.int .i64 Z[i.val].1,.string (bs Z[i.val].2)]
theorem BU (L:Pn)(m:Nat)(hm:m<L.secs.length):∃(h1:m<L.targets.length)(h2:m<L.data.length),L.secs[m]=(L.targets[m],L.data[m]):=by
 have h:=hm;rw[Pn.secs,List.length_zip]at h;exact⟨by omega,by omega,List.getElem_zip⟩
theorem Ct (L:Pn)(h:L.targets.length=L.data.length):L.secs.length=L.targets.length:=by
 rw[Pn.secs,List.length_zip];omega
def picked {α:Type}(Z:List α)(pre:List (Fin Z.length)):List α:=pre.map fun i=>Z[i.val]
theorem BJ {α:Type}(Z:List α)(pre:List (Fin Z.length))(i:Fin Z.length):picked Z (pre++[i])=picked Z pre++[Z[i.val]]:=by
 unfold picked;rw[List.map_append];rfl
theorem G8 {α:Type}(Z:List α)(pre:List (Fin Z.length))(m:Nat)(hm:m<Z.length)(h:picked Z pre=Z.take m):picked Z (pre++[⟨m,hm⟩])=Z.take (m+1):=by
 rw[BJ,h,List.take_succ_eq_append_getElem hm]
theorem Cf {B:Nat}{X Y:World}(h:Below X.heap.size X Y):KeepsFrom B X Y:=
 ⟨h.size,fun k o _ hk _=>(h.block k (Array.getElem?_eq_some_iff.1 hk).1).trans hk⟩
theorem Iv (n:Nat)(hn:1<=n)(L:Pn)(p' q':Pl)(hlen:L.targets.length=L.data.length)(hmany:L.targets.length<=1000000)(B0 Bp:Nat)(w:World)(h0:B0<=w.heap.size)
 (hLW:∀W,Below B0 w W->IsPn W L p' q') (bp:Blk w Bp 63 #[.slice p'.a L.targets.length p'.c,.slice q'.a L.data.length q'.c]):
 SeqO Fence.wide n Tryz.prog 189 #[.pointer (some ⟨Bp,0,none⟩)] (secEnc L.secs) (KeepB B0 [Bp])
  (fun ys=>picked L.secs ys=L.secs) (fun pre=>∃m,m<L.secs.length/\picked L.secs pre=L.secs.take (m+1)) L.secs.length w:=by
 intro l J Jx W hW hJ hJx hY h0J;have HY:=hid hY;have a0:=hid hlen;have kW:KeepB B0 [Bp] w W:=KeepB.later hW h0 (fun g hg=>by
  simp only[List.mem_cons,List.not_mem_nil,or_false]at hg
  rcases hg with rfl
  exact bp.lt)
 obtain⟨B1,b1⟩:=p';obtain⟨B2,b2⟩:=q';have a3:Bp∈[Bp]:=by simp
 have a1:=blk2 (bp.at_ (kW.at_ _ a3));clear hlen hY;refine callsIn_of_wp Tryz.func189 rfl trivial ?_ rfl;simp only[Tryz.ntmps189,Nat.reduceAdd,Nat.reduceSub,Yn]
 gi_wp2
 gi_loopw [8] (fun x V=>∃m:Nat,m<=L.targets.length/\x=.int .i64 m/\(∃pre,pre.length=m/\Hid (picked L.secs pre=L.secs.take m)/\J pre V)/\KeepB B0 [Bp] w V) (fun x _=>L.targets.length-(intOf x).toNat)
 case atStart=>exact⟨0,Nat.zero_le _,rfl,⟨[],rfl,hid rfl,h0J⟩,kW⟩
 case round=>
  obtain⟨m,hm,rfl,⟨pre,hpl,hpm,hJm⟩,hk⟩:=hrel;have Hpl:=hid hpl;clear a1 h0J kW hpl;by_cases hlt:m<L.targets.length
  · have a2:m<L.data.length:=by have:=a0.out;omega
    have hP:=hLW wr hk.below;obtain⟨c1,o1,e1,ct⟩:=hP.targets.int hlt;obtain⟨c2,o2,e2,cs⟩:=hP.data.str a2;have a6:B1=some ⟨c1,o1,none⟩:=e1;have a7:B2=some ⟨c2,o2,none⟩:=e2;subst a6 a7;have ct:=ct m hlt;have cs:=cs m a2;have hz:m<L.secs.length:=by rw[Ct L a0.out];omega
    have a5:=hid (BU L m hz);have Hz:=hid (G8 L.secs pre m hz hpm.out);have a1:=blk2 (bp.at_ (hk.at_ _ a3));obtain⟨fn,tmps,assign,body,hy,hR⟩:=HY.out pre ⟨m,hz⟩ wr hJm (by rw[Hpl.out];exact hz);obtain⟨_,_,hze⟩:=a5.out;simp only[secEnc,hze]at hy;clear hze;clear hP e1 e2 hJm
    gi_wp2
    refine hR.mono ?_;rintro e W3 (⟨rfl,hJ3,hst,hk3⟩|⟨rfl,hJx3,_⟩)
    · have a4:=hid hJ3;clear hJ3
      gi_wp2
      go_roundw
      case rel=>exact⟨m+1,by omega,by go_num,⟨_,by rw[List.length_append,Hpl.out];rfl,Hz,a4.out⟩,hk.trans hk3⟩
      case measure=>simp[intOf];omega
    · gi_wp2
      refine bodyPost_ret (results_none rfl _ _ _) rfl ?_;exact⟨⟨_,rfl⟩,.inr ⟨_,⟨m,hz,Hz.out⟩,hJx3⟩⟩
  · obtain rfl:m=L.targets.length:=by omega
    gi_wp2
    go_end0
    exact⟨⟨_,rfl⟩,.inl ⟨pre,by rw[hpm.out,List.take_of_length_le (by rw[Ct L a0.out];omega)],hJm⟩⟩
theorem Iu (n:Nat)(L:Pn)(p' q':Pl)(w:World):
 CallsIn Fence.wide n Tryz.prog 174 #[pval L p' q'] w fun e w'=>e=.returned (.func (.func 189) #[] #[.pointer (some ⟨w.heap.size,0,none⟩)])/\
  w'=w.alloc (.cells #[.slice p'.a L.targets.length p'.c,.slice q'.a L.data.length q'.c] 63):=by
 refine callsIn_of_wp Tryz.func174 rfl trivial ?_ rfl;simp only[Tryz.ntmps174,Nat.reduceAdd,Nat.reduceSub,Yn]
 gi_wp2
 go_ret
 exact⟨rfl,rfl⟩
end
end Go.Proofs.YtmiilfnchfdfcaaGreatDoor
