/- By: Root6, Root7, Root10, Root11, Root12, Root13, Root14, Root15. -/
import Derived.Test.YtmiilfnchfdfcaaGreatDoorByRoot4
import Derived.DeepKeys
import Derived.Deep.MidRow
set_option maxRecDepth 100000
set_option maxHeartbeats 40000000
set_option linter.unusedVariables false
namespace Go.Proofs.YtmiilfnchfdfcaaGreatDoor
section
open Go.RowKit Go.Shelf
attribute [local go_sem] Ad Ag Ah Ac Aj Ai
theorem Ps (n:Nat):Lib.trimB (List.replicate n 0) 0=[]:=by
 have h:Lib.trimRightB (List.replicate n (0:UInt8)) 0=[]:=by
  have:=Pq (s:=[]) (fun x hx=>nomatch hx) n;rw[List.nil_append]at this;exact this
 rw[Lib.trimB,h];rfl
theorem Pr {l:List UInt8}(h:l≠List.replicate l.length 0):Lib.trimB l 0≠[]:=fun e=>by
 obtain⟨n,hn⟩:=HU l;have h2:Lib.trimLeftB (AS l) 0=[]:=e;have h3:∀m:List UInt8,Lib.trimLeftB m 0=[]->m=List.replicate m.length 0:=fun m hm=>by
  have h4:m.dropWhile (· ==0)=[]:=hm
  induction m with
  |nil=>rfl
  |cons a m ih=>
   rw[List.dropWhile_cons]at h4
   split at h4
   · rename_i ha
     have ha:a=0:=by simpa using ha
     rw[ha,List.length_cons,List.replicate_succ,<-ih h4 h4]
   · cases h4
 have h5:=h3 _ h2;apply h
 have h6:l=List.replicate ((AS l).length+n) 0:=by
  rw[<-List.replicate_append_replicate,<-h5];exact hn
 rw[h6];simp
def snCells (l:List Sn):List Value:=l.flatMap fun e=>[.int .u32 e.id,.int .i64 e.l1,.string (bs e.name)]
theorem Oo (l:List Sn):(snCells l).length=l.length*3:=by
 induction l with
 |nil=>rfl
 |cons x l ih=>simp only[snCells,List.flatMap_cons,List.length_append,List.length_cons,List.length_nil]at ih ⊢;omega
theorem On (l:List Sn)(i:Nat)(h:i<l.length):(snCells l)[i*3]? =some (.int .u32 l[i].id)/\(snCells l)[i*3+1]? =some (.int .i64 l[i].l1)/\(snCells l)[i*3+2]? =some (.string (bs l[i].name)):=by
 induction l generalizing i with
 |nil=>simp at h
 |cons x l ih=>
  have e:snCells (x::l)=.int .u32 x.id:: .int .i64 x.l1:: .string (bs x.name)::snCells l:=rfl;cases i with
  |zero=>rw[e];exact⟨rfl,rfl,rfl⟩
  |succ i=>
   have:=ih i (by simpa using h);rw[e,show(i+1)*3=i*3+1+1+1 by omega];simpa using this
theorem Cells.sn {w:World}{A:Option Addr}{l:List Sn}(h:Cells w A (snCells l)){i:Nat}(hi:i<l.length):
 ∃b off,A=some ⟨b,off,none⟩/\∀j (hj:j<l.length),w.cell? ⟨b,off+j*3,none⟩=some (.int .u32 l[j].id)/\w.cell? ⟨b,off+j*3+1,none⟩=some (.int .i64 l[j].l1)/\w.cell? ⟨b,off+j*3+2,none⟩=some (.string (bs l[j].name)):=by
 rcases h with h|⟨b,off,rfl,h⟩
 · have:=congrArg List.length h;rw[Oo]at this;simp at this;omega
 · refine⟨b,off,rfl,fun j hj=>?_⟩;obtain⟨e1,e2,e3⟩:=On l j hj;exact⟨h _ _ e1,by rw[Nat.add_assoc];exact h _ _ e2,by rw[Nat.add_assoc];exact h _ _ e3⟩
def dmRows (l:List Dm):List Value:=l.flatMap dmCells
theorem Cp (l:List Dm)(m:Dm):dmRows l++dmCells m=dmRows (l++[m]):=by simp[dmRows]
theorem Bv {l:List Dm}(h:∀m∈l,m.bits.length=64):(dmRows l).length=l.length*66:=by
 induction l with
 |nil=>rfl
 |cons x l ih=>
  have h1:=AH (h x (by simp));have h2:=ih (fun m hm=>h m (by simp[hm]));simp only[dmRows,List.flatMap_cons,List.length_append,List.length_cons]at h2 ⊢;omega
theorem BF (m:Dm):∀u∈dmCells m,u.oneCell'=true:=by
 intro u hu;simp only[dmCells,List.mem_cons,List.mem_map]at hu
 rcases hu with rfl|rfl|⟨b,_,rfl⟩<;>simp[Value.oneCell']
theorem Ga (l:List Dm):∀u∈dmRows l,u.oneCell'=true:=by
 intro u hu;obtain⟨m,_,h⟩:=List.mem_flatMap.1 hu;exact BF m u h
abbrev dmPlace (i:Nat):Value:=.agg #[.int .i64 (4+(i:Int)),.int .i64 0,.int .i64 64,.func (.func 76) #[] #[],.func (.func 108) #[] #[]]
theorem NU (i:Nat)(hi:i<2)(w:World):Calls Tryz.prog 70 #[.int .i64 i] w fun e w'=>e=.returned (dmPlace i)/\Below w.heap.size w w':=by
 unfold dmPlace;obtain⟨a,ha⟩:∃a:Int,(4:Int)+(i:Int)=a:=⟨_,rfl⟩;rw[ha];have hB:=Below.refl w.heap.size w;have r:=Blk.new w 160 #[.int .i64 a,.int .i64 0,.int .i64 64,.func (.func 76) #[] #[],.func (.func 108) #[] #[]];have rk:=blk5 r;have hB_1:=Ya hB r;go_enter Tryz.func70,Tryz.ntmps70;go_wp2_with fail
 refine bodyPost_ret (v:=.agg #[.int .i64 a,.int .i64 0,.int .i64 64,.func (.func 76) #[] #[],.func (.func 108) #[] #[]]) (by simp[results,Tryz.results70,go_sem,rk]) rfl ?_;exact⟨rfl,hB_1⟩
end
section
open Go.RowKit Go.Shelf
def dmLits (m:Dm):List Lit:=.string m.name:: .bool m.use::m.bits.map .bool
theorem JT {a b:Dm}(h:dmLits a=dmLits b):a=b:=by
 obtain⟨n,u,l⟩:=a;obtain⟨n',u',l'⟩:=b;simp only[dmLits,List.cons.injEq,Lit.string.injEq,Lit.bool.injEq]at h;obtain⟨rfl,rfl,h⟩:=h;rw[(List.map_inj_right (fun x y e=>by injection e)).1 h]
section
variable {P:Program}
theorem Lk {e:TypeId}(ue:P.underlying e=some .bool)(ce:P.cellsOf e=1)(d:Nat)(l:List Bool)(k n:Nat)(pre:List Value)(hp:pre.length=k):
 ((List.range' k l.length).mapM fun i=>P.keyLits (d+1) e (((pre++l.map Value.bool).drop (i*P.cellsOf e)).take (P.cellsOf e)))=some (l.map fun b=>[Lit.bool b]):=by
 induction l generalizing k pre with
 |nil=>rfl
 |cons b l ih=>
  have h1:=ih (k+1) (pre++[.bool b]) (by simp[hp]);have e1:pre++[Value.bool b]++l.map Value.bool=pre++(b::l).map Value.bool:=by simp
  rw[e1]at h1;have e2:((pre++(b::l).map Value.bool).drop (k*P.cellsOf e)).take (P.cellsOf e)=[.bool b]:=by
   rw[ce,Nat.mul_one,<-hp,List.drop_left];rfl
  have e3:P.keyLits (d+1) e [.bool b]=some [.bool b]:=by simp[Program.keyLits,ue]
  rw[List.length_cons,List.range'_succ,List.mapM_cons,e2,e3,h1];rfl
theorem FW {t e:TypeId}{f0 f1 f2:Field}(hs:P.underlying t=some (.struct #[f0,f1,f2]))(hn:#[f0,f1,f2].all (·.name != "_")=true)
 (ho0:f0.offset=0/\P.cellsOf f0.type=1) (ho1:f1.offset=1/\P.cellsOf f1.type=1) (ho2:f2.offset=2/\P.cellsOf f2.type=64) (hC:P.cellsOf t=66)
 (u0:P.underlying f0.type=some .string) (u1:P.underlying f1.type=some .bool) (u2:P.underlying f2.type=some (.array 64 e)) (ue:P.underlying e=some .bool) (ce:P.cellsOf e=1)
 (d:Nat) (m:Dm) (hm:m.name.length<=maxLen) (hb:m.bits.length=64):P.keyLits (d+3) t (dmCells m)=some (dmLits m):=by
 have e0:P.keyLits (d+2) f0.type (((dmCells m).drop f0.offset).take (P.cellsOf f0.type))=some [.string m.name]:=by
  rw[ho0.1,ho0.2];show P.keyLits (d+2) f0.type [.string (bs m.name)]=_;have h9:(bs m.name).size<=maxLen:=by rw[Ac];exact hm
  rw[Program.keyLits.eq_def];simp only[u0,h9,if_true];simp[bs]
 have e1:P.keyLits (d+2) f1.type (((dmCells m).drop f1.offset).take (P.cellsOf f1.type))=some [.bool m.use]:=by
  rw[ho1.1,ho1.2];show P.keyLits (d+2) f1.type [.bool m.use]=_;simp[Program.keyLits,u1]
 have e2:P.keyLits (d+2) f2.type (((dmCells m).drop f2.offset).take (P.cellsOf f2.type))=some (m.bits.map .bool):=by
  rw[ho2.1,ho2.2];have h1:((dmCells m).drop 2).take 64=m.bits.map .bool:=by
   show(m.bits.map Value.bool).take 64=_;exact List.take_of_length_le (by simp;omega)
  have h2:=Lk ue ce d m.bits 0 64 [] rfl;rw[List.nil_append,hb,<-List.range_eq_range']at h2;rw[h1,Program.keyLits.eq_def];simp only[u2,List.length_map,hb,ho2.2,if_true,h2,Option.map_some,Option.some.injEq];generalize m.bits=l
  induction l with
  |nil=>rfl
  |cons b l ih=>simp only[List.map_cons,List.flatten_cons,ih];rfl
 rw[Program.keyLits.eq_def];simp only[hs,AH hb,hC,hn,and_self,if_true,List.mapM_cons,List.mapM_nil,e0,e1,e2];simp[dmLits]
theorem Ka {t e:TypeId}{f0 f1 f2:Field}(hk:P.keyTypeAt 3 t=true)(hs:P.underlying t=some (.struct #[f0,f1,f2]))(hn:#[f0,f1,f2].all (·.name != "_")=true)
 (ho0:f0.offset=0/\P.cellsOf f0.type=1) (ho1:f1.offset=1/\P.cellsOf f1.type=1) (ho2:f2.offset=2/\P.cellsOf f2.type=64) (hC:P.cellsOf t=66)
 (u0:P.underlying f0.type=some .string) (u1:P.underlying f1.type=some .bool) (u2:P.underlying f2.type=some (.array 64 e)) (ue:P.underlying e=some .bool) (ce:P.cellsOf e=1)
 (a b:Dm) (ha:a.name.length<=maxLen) (ha2:a.bits.length=64) (hb:b.name.length<=maxLen) (hb2:b.bits.length=64) (w:World):
 (Op.equal t (dmval a) (dmval b)).run P w=.ok (decide (a=b)) w:=by
 have ff:∀m:Dm,m.bits.length=64->(dmval m).formed P t=true:=fun m h=>by
  simp only[Value.formed,hs,hC];simp[AH h]
 obtain⟨r,hr,hiff⟩:=run_equalIn_deep (10000-3) 3 t hk w 3 3 (dmval a) (dmval b) (dmLits a) (dmLits b) (ff a ha2) (ff b hb2) (FW hs hn ho0 ho1 ho2 hC u0 u1 u2 ue ce 0 a ha ha2) (FW hs hn ho0 ho1 ho2 hC u0 u1 u2 ue ce 0 b hb hb2);have h1:r=decide (a=b):=by
  by_cases h:a=b
  · rw[decide_eq_true h];exact hiff.2 (by rw[h])
  · rw[decide_eq_false h];cases r with
    |false=>rfl
    |true=>exact absurd (JT (hiff.1 rfl)) h
 rw[<-h1];exact hr
end
theorem Fs (a b:Dm)(ha:a.name.length<=maxLen)(ha2:a.bits.length=64)(hb:b.name.length<=maxLen)(hb2:b.bits.length=64)(w:World):
 (Op.equal 42 (dmval a) (dmval b)).run Tryz.prog w=.ok (decide (a=b)) w:=
 Ka (e:=4) (by kernel_rfl) Tryz.underlying42 (by kernel_rfl) (by exact⟨rfl,by kernel_rfl⟩) (by exact⟨rfl,by kernel_rfl⟩) (by exact⟨rfl,by kernel_rfl⟩) (by kernel_rfl) (by kernel_rfl) (by kernel_rfl) (by kernel_rfl) (by kernel_rfl) (by kernel_rfl) a b ha ha2 hb hb2 w
attribute [local go_sem] Ad Ag Ah Ac Aj Ai
theorem Blk.range {w:World}{g:Nat}{t:TypeId}{cs:List Value}(h:Blk w g t cs.toArray):w.rangeAt g 0 cs:=fun j v hv=>by rw[h.cell,Nat.zero_add];simpa using hv
theorem Blk.there {w:World}{g:Nat}{t:TypeId}{cs:List Value}(h:Blk w g t cs.toArray):w.there g 0 cs.length:=fun j hj=>⟨by rw[h.cell,Nat.zero_add];simp[hj],h.frozen _⟩
theorem GX {g:Nat}{t:TypeId}:∀(new old:List Value)(pre:List Value){w:World},new.length=old.length->Blk w g t (pre++old).toArray->Blk (w.setCells g pre.length new) g t (pre++new).toArray
 |[],[],_,_,_,h=>by simpa[World.setCells]using h
 |v::r,o::q,pre,w,hl,h=>by
  have h1:=h.set pre.length v;have e:(pre++o::q).toArray.setIfInBounds pre.length v=(pre++[v]++q).toArray:=by simp
  rw[e]at h1;have h2:=GX r q (pre++[v]) (by simpa using hl) h1;rw[List.length_append,List.length_singleton,List.append_assoc,List.singleton_append]at h2;exact h2
theorem AN {w:World}{g:Nat}{t:TypeId}{a:Dm}(h:Blk w g t (dmCells a).toArray)(b:Dm)(ha:a.bits.length=64)(hb:b.bits.length=64):Blk (w.setCells g 0 (dmCells b)) g t (dmCells b).toArray:=
 GX (dmCells b) (dmCells a) [] (by rw[AH ha,AH hb]) h
theorem AK {w:World}{g k:Nat}{t:TypeId}{cs:Array Value}(h:Blk w k t cs)(hk:k≠g)(b:Dm):Blk (w.setCells g 0 (dmCells b)) k t cs:=(BK hk (dmCells b) 0 w).trans h
theorem AM {B:Nat}{w0 w:World}{g:Nat}(h:Below B w0 w)(hg:B<=g)(b:Dm):Below B w0 (w.setCells g 0 (dmCells b)):=below_setCells' hg (dmCells b) 0 h
theorem IsPn.offCells {L:Pn}{p q:Pl}{g:Nat}(ho:PnOff g L p q):∀(vs:List Value)(o:Nat){w:World},IsPn w L p q->IsPn (w.setCells g o vs) L p q
 |[],_,_,h=>h
 |v::r,o,_,h=>IsPn.offCells ho r (o+1) (h.off (a:=⟨g,o,none⟩) ho v)
theorem IsPn.offD {w:World}{L:Pn}{p q:Pl}(h:IsPn w L p q){g:Nat}(ho:PnOff g L p q)(b:Dm):IsPn (w.setCells g 0 (dmCells b)) L p q:=IsPn.offCells ho (dmCells b) 0 h
theorem IsDk.offCells {L:Dk}{p q:Pl}{g:Nat}(ho:DkOff g L p q):∀(vs:List Value)(o:Nat){w:World},IsDk w L p q->IsDk (w.setCells g o vs) L p q
 |[],_,_,h=>h
 |v::r,o,_,h=>IsDk.offCells ho r (o+1) (h.off (a:=⟨g,o,none⟩) ho v)
theorem IsDk.offD {w:World}{L:Dk}{p q:Pl}(h:IsDk w L p q){g:Nat}(ho:DkOff g L p q)(b:Dm):IsDk (w.setCells g 0 (dmCells b)) L p q:=IsDk.offCells ho (dmCells b) 0 h
def dmN:Nat:=66
theorem AU {m:Dm}(h:m.bits.length=64):(dmCells m).length=dmN:=AH h
theorem Fm (m:Dm)(k:Nat)(h:k<m.bits.length):(dmCells m)[2+k]? =some (.bool m.bits[k]):=by
 rw[show 2+k=k+1+1 by omega];simp[dmCells,h]
theorem Blk.bit {w:World}{g:Nat}{t:TypeId}{m:Dm}(h:Blk w g t (dmCells m).toArray)(k:Nat)(hk:k<m.bits.length):w.cell? ⟨g,2+k,none⟩=some (.bool m.bits[k]):=by
 rw[h.cell];simpa using Fm m k hk
theorem ER {w:World}{g:Nat}{t:TypeId}{n:List UInt8}{u:Bool}{l:List Bool}(h:Blk w g t (dmCells ⟨n,u,l⟩).toArray)(k:Nat)(b:Bool):Blk (w.setCell ⟨g,2+k,none⟩ (.bool b)) g t (dmCells ⟨n,u,l.set k b⟩).toArray:=by
 have:=h.set (2+k) (.bool b);rw[show 2+k=k+1+1 by omega]at this ⊢;simpa[dmCells,List.map_set]using this
theorem Iy {w:World}{g:Nat}{t:TypeId}{m:Dm}(h:Blk w g t (dmCells m).toArray)(n:List UInt8):Blk (w.setCell ⟨g,0,none⟩ (.string (bs n))) g t (dmCells {m with name:=n}).toArray:=by
 simpa[dmCells]using h.set 0 (.string (bs n))
theorem CJ {w:World}{g:Nat}{t:TypeId}{m:Dm}(h:Blk w g t (dmCells m).toArray)(b:Bool):Blk (w.setCell ⟨g,1,none⟩ (.bool b)) g t (dmCells {m with use:=b}).toArray:=by
 simpa[dmCells]using h.set 1 (.bool b)
theorem Tryz.dm_size:(Tryz.prog.info? 42).map (·.size)=some 66:=by kernel_rfl
theorem Tryz.dm_agg (W:World):(isAgg 42).run Tryz.prog W=.ok true W:=by
 unfold isAgg;rw[Sem.run_bind,run_underlying Tryz.underlying42 W];rfl
theorem Tryz.dm_siz (W:World):(sizeOf 42).run Tryz.prog W=.ok dmN W:=by
 unfold dmN;obtain⟨i,hi,h⟩:=Option.map_eq_some_iff.1 Tryz.dm_size;simp[sizeOf,typeInfo,hi,h]
theorem Tryz.dm_load {w:World}{b o:Nat}(m:Dm)(hm:m.bits.length=64)(h:w.rangeAt b o (dmCells m)):(loadCellsFrom ⟨b,o,none⟩ 0 dmN #[]).run Tryz.prog w=.ok (dmCells m).toArray w:=by
 have:=run_loadCells_list (P:=Tryz.prog) w ⟨b,o,none⟩ (dmCells m) (fun j v hv=>by rw[Addr.add_mid];exact h j v hv);rw[AH hm]at this;exact this
theorem Tryz.dm_store {w:World}{b o:Nat}(m:Dm)(hm:m.bits.length=64)(h:w.there b o 66):(storeCells ⟨b,o,none⟩ (dmCells m) 0).run Tryz.prog w=.ok () (w.setCells b o (dmCells m)):=by
 have hl:=AH hm;have:=run_storeCells_cells (P:=Tryz.prog) b o (dmCells m) 0 w (fun j hj=>by simpa using(h j (by omega)).1) (fun j hj=>by simpa using(h j (by omega)).2) (BF m);simpa using this
theorem Tryz.dm_all {w:World}{g:Nat}(m:Dm)(hm:m.bits.length=64)(h:Blk w g 42 (dmCells m).toArray):
 (loadCellsFrom ⟨g,0,none⟩ 0 dmN #[]).run Tryz.prog w=.ok (dmCells m).toArray w/\w.cell? ⟨g,0,none⟩=some (.string (bs m.name))/\w.cell? ⟨g,1,none⟩=some (.bool m.use):=
 ⟨Tryz.dm_load m hm h.range,h.cell 0,h.cell 1⟩
theorem Tryz.dm_put {w:World}{g:Nat}{a:Dm}(m:Dm)(hm:m.bits.length=64)(ha:a.bits.length=64)(h:Blk w g 42 (dmCells a).toArray):(storeCells ⟨g,0,none⟩ (dmCells m) 0).run Tryz.prog w=.ok () (w.setCells g 0 (dmCells m)):=
 Tryz.dm_store m hm (by have:=h.there;rwa [AH ha]at this)
theorem Tryz.dm_zeros:Tryz.zeroCells42=(dmCells Dm.zero).toArray:=by kernel_rfl
section
variable {P:Program}
theorem BL {ops:Array Oper}{rest:List Oper}{o:Oper}{a:Act}{w:World}{Q:Exit->Act->World->Prop}(hgd:o.guard=none)(v:Value)(hr:(execOp a.eval o).run P w=.ok (.value v) w)
 (h:wpList P ops Q rest (a.put o.dst v) w):wpList P ops Q (o::rest) a w:=wpList_plain hgd fun K hK=>by unfold Oper.wp;rw[hr];exact hK _ _ h
theorem Cw {o:Oper}{a:Act}{C:World->Prop}{K:Act->Prop}(v:Value)(hr:∀w,(execOp a.eval o).run P w=.ok (.value v) w)(hk:K (a.put o.dst v)):o.quiet P a C K:=
 ⟨v,fun w _=>by unfold Oper.quietAt;rw[hr w];exact⟨rfl,rfl⟩,hk⟩
end
theorem Tryz.run_dm {ρ:Operand->Value}{o:Oper}(x y:Operand)(t':TypeId)(ho:o.op=.binOp .eql 42 x y t')(m n:Dm)(hx:ρ x=dmval m)(hy:ρ y=dmval n)
 (hm:m.name.length<=maxLen) (hm2:m.bits.length=64) (hn:n.name.length<=maxLen) (hn2:n.bits.length=64) (b:Bool) (hb:decide (m=n)=b) (w:World):(execOp ρ o).run Tryz.prog w=.ok (.value (.bool b)) w:=by
 have he:=Fs m n hm hm2 hn hn2 w;rw[hb]at he;have hg:(eqGuard .eql 42 x y (dmval m) (dmval n)).run Tryz.prog w=.ok () w:=by
  have hp:(Sem.program Sem.pure).run Tryz.prog w=.ok Tryz.prog w:=rfl;simp[eqGuard,Sem.run_bind,program,hp]
 unfold execOp;simp only[ho,hx,hy,Sem.run_bind,hg,Result.andThen_ok,binOp,he,Sem.run_pure]
theorem Tryz.run_dmn {ρ:Operand->Value}{o:Oper}(x y:Operand)(t':TypeId)(ho:o.op=.binOp .neq 42 x y t')(m n:Dm)(hx:ρ x=dmval m)(hy:ρ y=dmval n)
 (hm:m.name.length<=maxLen) (hm2:m.bits.length=64) (hn:n.name.length<=maxLen) (hn2:n.bits.length=64) (b:Bool) (hb:decide (m=n)=b) (w:World):(execOp ρ o).run Tryz.prog w=.ok (.value (.bool (!b))) w:=by
 have he:=Fs m n hm hm2 hn hn2 w;rw[hb]at he;have hg:(eqGuard .neq 42 x y (dmval m) (dmval n)).run Tryz.prog w=.ok () w:=by
  have hp:(Sem.program Sem.pure).run Tryz.prog w=.ok Tryz.prog w:=rfl;simp[eqGuard,Sem.run_bind,program,hp]
 unfold execOp;simp only[ho,hx,hy,Sem.run_bind,hg,Result.andThen_ok,binOp,he,Sem.run_pure]
theorem Tryz.build_dm (w:World):(Instr.build 42 #[]).run Tryz.prog w=.ok (dmval Dm.zero) w:=by kernel_rfl
theorem Tryz.run_dmz {ρ:Operand->Value}{o:Oper}(ho:o.op=.build 42 #[])(w:World):(execOp ρ o).run Tryz.prog w=.ok (.value (dmval Dm.zero)) w:=by
 have h0:(#[]:Array (Nat×Operand)).map (fun p=>(p.1,ρ p.2))=#[]:=by simp
 unfold execOp;simp only[ho,h0,Sem.run_bind,Tryz.build_dm,Result.andThen_ok,Sem.run_pure]
theorem Cells.dm {w:World}{A:Option Addr}{l:List Dm}(hl:∀m∈l,m.bits.length=64)(h:Cells w A (dmRows l)){i:Nat}(hi:i<l.length):
 ∃b off,A=some ⟨b,off,none⟩/\b<w.heap.size/\∀j (hj:j<l.length),w.rangeAt b (off+j*dmN) (dmCells l[j]):=by
 have key:∀(l:List Dm),(∀m∈l,m.bits.length=64)->∀j (hj:j<l.length) k v,(dmCells l[j])[k]? =some v->(dmRows l)[j*66+k]? =some v:=fun l=>by
  induction l with
  |nil=>intro _ j hj;simp at hj
  |cons x l ih=>
   intro hl j hj k v hv;have hx:=AH (hl x (by simp));show(dmCells x++dmRows l)[j*66+k]? =some v;cases j with
   |zero=>
    have hk:k<(dmCells x).length:=(List.getElem?_eq_some_iff.1 hv).1;rw[Nat.zero_mul,Nat.zero_add,List.getElem?_append_left hk];exact hv
   |succ j=>
    rw[List.getElem?_append_right (by omega),hx,show(j+1)*66+k-66=j*66+k by omega];exact ih (fun m hm=>hl m (by simp[hm])) j (by simpa using hj) k v hv
 rcases h with h|⟨b,off,rfl,h⟩
 · have:=congrArg List.length h;rw[Bv hl]at this;simp at this;omega
 · refine⟨b,off,rfl,?_,fun j hj k v hv=>?_⟩
   · have h66:=AH (hl _ (List.getElem_mem hi));obtain⟨v,hv⟩:∃v,(dmCells l[i])[0]? =some v:=⟨_,rfl⟩;exact AZ (h _ v (key l hl i hi 0 v hv))
   · rw[Nat.add_assoc,dmN];exact h _ _ (key l hl j hj k v hv)
theorem BC {w w':World}{b o:Nat}{cs:List Value}(h:w.rangeAt b o cs)(hb:Below w.heap.size w w'):w'.rangeAt b o cs:=fun j v hv=>Av hb (h j v hv)
theorem Mv (l:List Dm)(hl64:∀m∈l,m.bits.length=64)(hnm:∀m∈l,m.name.length<=maxLen)(A B:Option Addr)(c d:Nat)(w:World)(hA:Cells w A (dmRows l))(hB:Cells w B (dmRows l))(hl:l.length<=1000000):
 Calls Tryz.prog 25 #[.slice A l.length c,.slice B l.length d] w fun e w'=>e=.returned (.bool true)/\Below w.heap.size w w':=by
 cases l with
 |nil=>
  go_enter Tryz.func25,Tryz.ntmps25;go_wp2_with fail
  go_loopw [5] (fun x W=>x=.int .i64 0/\Below w.heap.size w W) (fun x _=>0)
  case atStart=>exact⟨rfl,Below.refl _ _⟩
  case round=>
   obtain⟨rfl,hb⟩:=hrel;go_wp2_with fail
   go_ret
   exact⟨rfl,hb⟩
 |cons v l=>
 obtain⟨pa,oa,rfl,_,ha⟩:=hA.dm hl64 (i:=0) (by simp);obtain⟨pb,ob,rfl,_,hb⟩:=hB.dm hl64 (i:=0) (by simp);generalize hm:v::l=m at*;have HA:=hid (fun(W:World)(h:Below w.heap.size w W)(j:Nat)(hj:j<m.length)=>And.intro (Tryz.dm_load m[j] (hl64 _ (List.getElem_mem hj)) (BC (ha j hj) h)) (Tryz.dm_load m[j] (hl64 _ (List.getElem_mem hj)) (BC (hb j hj) h)));have a36:=Tryz.dm_agg;have z36:=Tryz.dm_siz;clear hA hB ha hb hm;go_enter Tryz.func25,Tryz.ntmps25;go_wp2_with fail
 go_loopw [5] (fun x W=>∃i:Nat,i<=m.length/\x=.int .i64 i/\Below w.heap.size w W) (fun x _=>m.length-(intOf x).toNat)
 case atStart=>exact⟨0,Nat.zero_le _,rfl,Below.refl _ _⟩
 case round=>
  obtain⟨i,hi,rfl,hb⟩:=hrel;by_cases hlt:i<m.length
  · have k0:=HA.out _ hb i hlt;have k1:=fun n=>HA.out _ (Bq hb n) i hlt
    have k3:=And.intro (hnm _ (List.getElem_mem hlt)) (hl64 _ (List.getElem_mem hlt));generalize m[i]=e at k0 k1 k3;go_wp2_with fail
    refine wp_region_quiet_lit (by kernel_rfl) (by kernel_rfl) ?_
    repeat (go_big_quiet_step (fail))
    go_big_quiet_want
    refine Cw (.bool false) (fun W=>Tryz.run_dmn _ _ _ rfl e e rfl rfl k3.1 k3.2 k3.1 k3.2 true (decide_eq_true rfl) W) ?_
    go_big_quiet_on
    refine wpQuiet_nil ?_;intro _ hw';obtain⟨nq,hw''⟩:=hw';subst hw'';go_wp2_with fail
    go_roundw
    case rel=>exact⟨i+1,by omega,by go_num,Bq hb _⟩
    case measure=>simp[intOf];omega
  · obtain rfl:i=m.length:=by omega
    go_wp2_with fail
    go_ret
    exact⟨rfl,hb⟩
theorem and7:∀k:Fin 64,bits .and .i64 ((k.val:Nat):Int) 7=((k.val%8:Nat):Int):=by decide+kernel
theorem IK (l:List UInt8)(j:Nat)(x:UInt8):(byteCells l).setIfInBounds j (.int .u8 x.toNat)=byteCells (l.set j x):=by simp[byteCells,List.map_set]
theorem IJ (l:List UInt8)(j:Nat)(h:j<l.length):(byteCells l)[j]? =some (.int .u8 (l[j]).toNat):=by simp[byteCells,h]
theorem Blk.byte {w:World}{g:Nat}{t:TypeId}{l:List UInt8}(h:Blk w g t (byteCells l))(j:Nat)(hj:j<l.length):w.cell? ⟨g,j,none⟩=some (.int .u8 (l.getD j 0).toNat):=by
 rw[h.cell,IJ l j hj,List.getD_eq_getElem?_getD,List.getElem?_eq_getElem hj];rfl
theorem ES {w:World}{g:Nat}{t:TypeId}{l:List UInt8}(h:Blk w g t (byteCells l))(j:Nat)(x:UInt8):Blk (w.setCell ⟨g,j,none⟩ (.int .u8 x.toNat)) g t (byteCells (l.set j x)):=by
 rw[<-IK];exact h.set j _
theorem GL (w:World):Calls Tryz.prog 76 #[dmval Dm.zero] w fun e w'=>e=.returned (.tuple #[.string (bs (List.replicate 64 0)),.bool true])/\Below w.heap.size w w':=by
 have c:=fun W=>NX 64 (by decide) W
 rw[show((64:Nat):Int)=64 from rfl]at c;have a36:=Tryz.dm_agg;have z36:=Tryz.dm_siz;generalize List.replicate 64 (0:UInt8)=T at*;have hB:=Below.refl w.heap.size w;have x:=Blk.new w 42 (dmCells Dm.zero).toArray;have xk:=Tryz.dm_all Dm.zero rfl x;have hB_1:=hB.alloc hB.size (.cells (dmCells Dm.zero).toArray 42);go_enter Tryz.func76,Tryz.ntmps76;go_wp2_with (first|(go_at_call 113;refine(c _).mono ?_;rintro e w1 ⟨rfl,hb1⟩)|(refine BL rfl (dmval Dm.zero) (Tryz.run_dmz rfl _) ?_)|(refine BL rfl (.bool true) (Tryz.run_dm _ _ _ rfl Dm.zero Dm.zero rfl rfl (by decide) rfl (by decide) rfl true (decide_eq_true rfl) _) ?_))
 replace hB:=bt hB_1 hb1
 go_ret2
 exact⟨rfl,hB⟩
theorem NW (m:Dm)(h64:m.bits.length=64)(hm:m.name.length<=maxLen)(hz:m≠Dm.zero)(w:World):Calls Tryz.prog 76 #[dmval m] w fun e w'=>(∃b,e=.returned (.tuple #[.string (bs b),.bool m.ok])/\(m.ok=true->b=m.bytes))/\Below w.heap.size w w':=by
 have cn:=fun W=>F7 m.name hm W
 obtain⟨N,en,hN⟩:∃N en,nameR m.name=(N,en):=⟨_,_,rfl⟩;rw[hN]at cn;simp only at cn;have hname:nameOk m.name=false->en≠0:=fun h=>by rw[nameR,if_neg (by rw[h];simp)]at hN;obtain⟨_,rfl⟩:=Prod.mk.inj hN;decide
 have hnam2:nameOk m.name=true->en=0/\N=m.name++List.replicate (8-m.name.length) 0:=fun h=>by rw[nameR,if_pos h]at hN;obtain⟨a,b⟩:=Prod.mk.inj hN;exact⟨b.symm,a.symm⟩
 have hNl:N.length<=8:=by
  cases h:nameOk m.name with
  |true=>rw[(hnam2 h).2];have:=C3 h;simp;omega
  |false=>rw[nameR,if_neg (by rw[h];simp)]at hN;obtain⟨rfl,_⟩:=Prod.mk.inj hN;simp
 have Hok:=hid (show m.ok=decide (en=0) by
  rw[Dm.ok,decide_eq_false hz,Bool.false_or];cases h:nameOk m.name with
  |true=>rw[(hnam2 h).1];rfl
  |false=>exact(decide_eq_false (hname h)).symm)
 have Hby:=hid (fun(h:m.ok=true)=>show m.bytes=Au (N++m.tail) by
  rw[Dm.bytes,if_neg hz];rw[Dm.ok,decide_eq_false hz,Bool.false_or]at h;rw[(hnam2 h).2])
 have pp:=fun W=>LV (N++m.tail) (by rw[List.length_append,Dm.tail_length];unfold maxLen;omega) 64 W
 have hp64:(padR (N++m.tail) 64).1=Au (N++m.tail):=by
  have:=Dm.tail_length m;rw[padR,if_neg (by rw[List.length_append];omega)];rfl
 rw[hp64]at pp;have a36:=Tryz.dm_agg;have z36:=Tryz.dm_siz;have htl:=Dm.tail_length m;have Htail:=hid (show m.tail=bitRow (fun k=>m.bits.getD k false) (Dm.flags m.use) 64 from rfl);generalize m.tail=TL at*;generalize m.bytes=BY at*;generalize m.ok=OK at*;clear hname hnam2 hN hp64;obtain⟨name,use,bits⟩:=m;simp only at h64 hm cn Htail;have Hbit:=hid (fun(k:Nat)(hk:k<64)=>show bits.getD k false=bits[k]'(by omega) by rw[List.getD_eq_getElem?_getD,List.getElem?_eq_getElem (by omega)];rfl);cases use with
 |false=>
  have hB:=Below.refl w.heap.size w;have x:=Blk.new w 42 (dmCells ⟨name,false,bits⟩).toArray;have xk:=Tryz.dm_all ⟨name,false,bits⟩ h64 x;have hB_1:=hB.alloc hB.size (.cells (dmCells ⟨name,false,bits⟩).toArray 42);go_enter Tryz.func76,Tryz.ntmps76;go_wp2_with (first|(refine BL rfl (dmval Dm.zero) (Tryz.run_dmz rfl _) ?_)|(refine BL rfl (.bool false) (Tryz.run_dm _ _ _ rfl ⟨name,false,bits⟩ Dm.zero rfl rfl hm h64 (by decide) rfl false (decide_eq_false hz) _) ?_))
  go_at_call 26;refine(cn _).mono ?_;rintro e w1 ⟨rfl,hb1⟩;replace hB:=bt hB_1 hb1;replace x:=x.below hb1 (by simp);have lt1:=x.lt;have hB0:=hB;have x0:=x;replace hB:=hB.alloc hB.size (.cells #[.int .u8 0,.int .u8 0,.int .u8 0,.int .u8 0,.int .u8 0,.int .u8 0,.int .u8 0,.int .u8 0,.int .u8 0,.int .u8 0,.int .u8 0,.int .u8 0,.int .u8 0,.int .u8 0,.int .u8 0,.int .u8 0] 167);replace x:=Yc x hB;have b0:Blk (w1.alloc (.cells #[.int .u8 0,.int .u8 0,.int .u8 0,.int .u8 0,.int .u8 0,.int .u8 0,.int .u8 0,.int .u8 0,.int .u8 0,.int .u8 0,.int .u8 0,.int .u8 0,.int .u8 0,.int .u8 0,.int .u8 0,.int .u8 0] 167)) w1.heap.size 167 (byteCells (List.replicate 16 0)):=Blk.new w1 167 #[.int .u8 0,.int .u8 0,.int .u8 0,.int .u8 0,.int .u8 0,.int .u8 0,.int .u8 0,.int .u8 0,.int .u8 0,.int .u8 0,.int .u8 0,.int .u8 0,.int .u8 0,.int .u8 0,.int .u8 0,.int .u8 0];have sz1:w.heap.size<=w1.heap.size:=by omega
  replace xk:=Tryz.dm_all ⟨name,false,bits⟩ h64 x;have f0:=b0.frozen 0;have c0:=b0.byte 0 (by decide);go_wp2_with fail
  go_loopw [23] (fun k W=>∃n:Nat,n<=64/\k=.int .i64 n/\Blk W w1.heap.size 167 (byteCells (bitRow (fun k=>bits.getD k false) (Dm.flags false) n))/\Blk W w.heap.size 42 (dmCells ⟨name,false,bits⟩).toArray/\Below w.heap.size w W) (fun k _=>64-(intOf k).toNat)
  case atStart=>exact⟨0,Nat.zero_le _,rfl,b0,x,hB⟩
  case round=>
   clear xk x b0 hB;obtain⟨n,hn,rfl,b0,x,hB⟩:=hrel;have hne:w.heap.size≠w1.heap.size:=by omega
   have hrl:(bitRow (fun k=>bits.getD k false) (Dm.flags false) n).length=16:=by rw[DA,Dm.flags_length]
   by_cases hlt:n<64
   · have hk:=x.bit n (by rw[h64];exact hlt);have hnext:=DB (fun k=>bits.getD k false) (Dm.flags false) n;simp only[Hbit.out n hlt]at hnext;simp only at hk;generalize bits[n]'(by omega)=b at hk hnext;have e2:=and7 ⟨n,hlt⟩;simp only at e2;cases b with
     |false=>
      rw[if_neg (by decide)]at hnext;have Hn:=hid hnext;clear hnext;go_wp2_with fail
      go_roundw
      case rel=>exact⟨n+1,by omega,by go_num,by rw[Hn.out];exact b0,x,hB⟩
      case measure=>simp[intOf];omega
     |true=>
      rw[if_pos rfl]at hnext;obtain⟨j,hj⟩:∃j:Nat,8+n/8=j:=⟨_,rfl⟩;obtain⟨s,hs⟩:∃s:Nat,n%8=s:=⟨_,rfl⟩;have hj16:j<16:=by omega
      have hs8:s<8:=by omega
      have e1:(8:Int)+(n:Int)/8=(j:Int):=by omega
      rw[hs]at e2;rw[hj,hs]at hnext;have Hn:=hid hnext;clear hnext hj hs;generalize bitRow (fun k=>bits.getD k false) (Dm.flags false) n=R at*;have c0:=b0.byte j (by omega);have f0:=b0.frozen j;have b1:=ES b0 j (UInt8.ofNat ((R.getD j 0).toNat ||| 2^s));have hB1:=hB.setCell (p:=⟨w1.heap.size,j,none⟩) sz1 (.int .u8 (UInt8.ofNat ((R.getD j 0).toNat ||| 2^s)).toNat);have x1:=x.other (a:=⟨w1.heap.size,j,none⟩) hne (.int .u8 (UInt8.ofNat ((R.getD j 0).toNat ||| 2^s)).toNat);have hv:=(R.getD j 0).toNat_lt;have hp:2^s<256:=Nat.pow_lt_pow_right (a:=2) (by omega) hs8;have e3:IntKind.u8.wrap ((2:Int)^s)=((2^s:Nat):Int):=by
       rw[IntKind.wrap_u8',show((2:Int)^s)=((2^s:Nat):Int) by simp];exact Int.emod_eq_of_lt (Int.natCast_nonneg _) (Int.ofNat_lt.2 hp)
      have e4:Go.bits .or .u8 ((R.getD j 0).toNat:Int) ((2^s:Nat):Int)=((UInt8.ofNat ((R.getD j 0).toNat ||| 2^s)).toNat:Int):=by rw[u8_or_nat _ _ (by omega) (by omega),EW _ _ hs8]
      generalize UInt8.ofNat ((R.getD j 0).toNat ||| 2^s)=X at*;generalize 2^s=p at*;generalize R.getD j 0=v at*;go_wp2_with fail
      go_region
      go_wp2_with fail
      go_roundw
      case rel=>exact⟨n+1,by omega,by go_num,by rw[Hn.out];exact b1.drew,x1.drew,hB1.drew⟩
      case measure=>simp[intOf];omega
   · obtain rfl:n=64:=by omega
     have hR:bitRow (fun k=>bits.getD k false) (Dm.flags false) 64=TL:=Htail.out.symm;rw[hR]at b0 hrl;clear hR Htail Hbit;have hcv:=run_convert_bytes_back (P:=Tryz.prog) wr 139 9 5 ⟨w1.heap.size,0,none⟩ 16 TL Tryz.underlying139 Tryz.underlying5 Tryz.underlying9 (fun i hi=>by
      rw[Bo,Nat.zero_add,b0.cell];simp[byteCells,hi])
     rw[htl]at hcv;go_wp2_with fail
     go_at_call 66;refine(pp _).mono ?_;rintro e w2 ⟨rfl,hb2⟩;replace hB:=bt hB hb2;go_wp2_with fail
     go_ret2
     exact⟨⟨_,by rw[Hok.out];rfl,fun h=>(Hby.out h).symm⟩,hB⟩
 |true=>
  have hB:=Below.refl w.heap.size w;have x:=Blk.new w 42 (dmCells ⟨name,true,bits⟩).toArray;have xk:=Tryz.dm_all ⟨name,true,bits⟩ h64 x;have hB_1:=hB.alloc hB.size (.cells (dmCells ⟨name,true,bits⟩).toArray 42);go_enter Tryz.func76,Tryz.ntmps76;go_wp2_with (first|(refine BL rfl (dmval Dm.zero) (Tryz.run_dmz rfl _) ?_)|(refine BL rfl (.bool false) (Tryz.run_dm _ _ _ rfl ⟨name,true,bits⟩ Dm.zero rfl rfl hm h64 (by decide) rfl false (decide_eq_false hz) _) ?_))
  go_at_call 26;refine(cn _).mono ?_;rintro e w1 ⟨rfl,hb1⟩;replace hB:=bt hB_1 hb1;replace x:=x.below hb1 (by simp);have lt1:=x.lt;have hB0:=hB;have x0:=x;replace hB:=hB.alloc hB.size (.cells #[.int .u8 0,.int .u8 0,.int .u8 0,.int .u8 0,.int .u8 0,.int .u8 0,.int .u8 0,.int .u8 0,.int .u8 0,.int .u8 0,.int .u8 0,.int .u8 0,.int .u8 0,.int .u8 0,.int .u8 0,.int .u8 0] 167);replace x:=Yc x hB;have b0:Blk (w1.alloc (.cells #[.int .u8 0,.int .u8 0,.int .u8 0,.int .u8 0,.int .u8 0,.int .u8 0,.int .u8 0,.int .u8 0,.int .u8 0,.int .u8 0,.int .u8 0,.int .u8 0,.int .u8 0,.int .u8 0,.int .u8 0,.int .u8 0] 167)) w1.heap.size 167 (byteCells (List.replicate 16 0)):=Blk.new w1 167 #[.int .u8 0,.int .u8 0,.int .u8 0,.int .u8 0,.int .u8 0,.int .u8 0,.int .u8 0,.int .u8 0,.int .u8 0,.int .u8 0,.int .u8 0,.int .u8 0,.int .u8 0,.int .u8 0,.int .u8 0,.int .u8 0];have sz1:w.heap.size<=w1.heap.size:=by omega
  replace xk:=Tryz.dm_all ⟨name,true,bits⟩ h64 x;have f0:=b0.frozen 0;have c0:=b0.byte 0 (by decide);go_wp2_with fail
  replace hB:=hB0.alloc hB0.size (.cells #[.int .u8 1,.int .u8 0,.int .u8 0,.int .u8 0,.int .u8 0,.int .u8 0,.int .u8 0,.int .u8 0,.int .u8 0,.int .u8 0,.int .u8 0,.int .u8 0,.int .u8 0,.int .u8 0,.int .u8 0,.int .u8 0] 167);replace x:=Yc x0 hB;clear b0;have b0:Blk (w1.alloc (.cells #[.int .u8 1,.int .u8 0,.int .u8 0,.int .u8 0,.int .u8 0,.int .u8 0,.int .u8 0,.int .u8 0,.int .u8 0,.int .u8 0,.int .u8 0,.int .u8 0,.int .u8 0,.int .u8 0,.int .u8 0,.int .u8 0] 167)) w1.heap.size 167 (byteCells (Dm.flags true)):=Blk.new w1 167 #[.int .u8 1,.int .u8 0,.int .u8 0,.int .u8 0,.int .u8 0,.int .u8 0,.int .u8 0,.int .u8 0,.int .u8 0,.int .u8 0,.int .u8 0,.int .u8 0,.int .u8 0,.int .u8 0,.int .u8 0,.int .u8 0];go_loopw [23] (fun k W=>∃n:Nat,n<=64/\k=.int .i64 n/\Blk W w1.heap.size 167 (byteCells (bitRow (fun k=>bits.getD k false) (Dm.flags true) n))/\Blk W w.heap.size 42 (dmCells ⟨name,true,bits⟩).toArray/\Below w.heap.size w W) (fun k _=>64-(intOf k).toNat)
  case atStart=>exact⟨0,Nat.zero_le _,rfl,b0,x,hB⟩
  case round=>
   clear xk x b0 hB;obtain⟨n,hn,rfl,b0,x,hB⟩:=hrel;have hne:w.heap.size≠w1.heap.size:=by omega
   have hrl:(bitRow (fun k=>bits.getD k false) (Dm.flags true) n).length=16:=by rw[DA,Dm.flags_length]
   by_cases hlt:n<64
   · have hk:=x.bit n (by rw[h64];exact hlt);have hnext:=DB (fun k=>bits.getD k false) (Dm.flags true) n;simp only[Hbit.out n hlt]at hnext;simp only at hk;generalize bits[n]'(by omega)=b at hk hnext;have e2:=and7 ⟨n,hlt⟩;simp only at e2;cases b with
     |false=>
      rw[if_neg (by decide)]at hnext;have Hn:=hid hnext;clear hnext;go_wp2_with fail
      go_roundw
      case rel=>exact⟨n+1,by omega,by go_num,by rw[Hn.out];exact b0,x,hB⟩
      case measure=>simp[intOf];omega
     |true=>
      rw[if_pos rfl]at hnext;obtain⟨j,hj⟩:∃j:Nat,8+n/8=j:=⟨_,rfl⟩;obtain⟨s,hs⟩:∃s:Nat,n%8=s:=⟨_,rfl⟩;have hj16:j<16:=by omega
      have hs8:s<8:=by omega
      have e1:(8:Int)+(n:Int)/8=(j:Int):=by omega
      rw[hs]at e2;rw[hj,hs]at hnext;have Hn:=hid hnext;clear hnext hj hs;generalize bitRow (fun k=>bits.getD k false) (Dm.flags true) n=R at*;have c0:=b0.byte j (by omega);have f0:=b0.frozen j;have b1:=ES b0 j (UInt8.ofNat ((R.getD j 0).toNat ||| 2^s));have hB1:=hB.setCell (p:=⟨w1.heap.size,j,none⟩) sz1 (.int .u8 (UInt8.ofNat ((R.getD j 0).toNat ||| 2^s)).toNat);have x1:=x.other (a:=⟨w1.heap.size,j,none⟩) hne (.int .u8 (UInt8.ofNat ((R.getD j 0).toNat ||| 2^s)).toNat);have hv:=(R.getD j 0).toNat_lt;have hp:2^s<256:=Nat.pow_lt_pow_right (a:=2) (by omega) hs8;have e3:IntKind.u8.wrap ((2:Int)^s)=((2^s:Nat):Int):=by
       rw[IntKind.wrap_u8',show((2:Int)^s)=((2^s:Nat):Int) by simp];exact Int.emod_eq_of_lt (Int.natCast_nonneg _) (Int.ofNat_lt.2 hp)
      have e4:Go.bits .or .u8 ((R.getD j 0).toNat:Int) ((2^s:Nat):Int)=((UInt8.ofNat ((R.getD j 0).toNat ||| 2^s)).toNat:Int):=by rw[u8_or_nat _ _ (by omega) (by omega),EW _ _ hs8]
      generalize UInt8.ofNat ((R.getD j 0).toNat ||| 2^s)=X at*;generalize 2^s=p at*;generalize R.getD j 0=v at*;go_wp2_with fail
      go_region
      go_wp2_with fail
      go_roundw
      case rel=>exact⟨n+1,by omega,by go_num,by rw[Hn.out];exact b1.drew,x1.drew,hB1.drew⟩
      case measure=>simp[intOf];omega
   · obtain rfl:n=64:=by omega
     have hR:bitRow (fun k=>bits.getD k false) (Dm.flags true) 64=TL:=Htail.out.symm;rw[hR]at b0 hrl;clear hR Htail Hbit;have hcv:=run_convert_bytes_back (P:=Tryz.prog) wr 139 9 5 ⟨w1.heap.size,0,none⟩ 16 TL Tryz.underlying139 Tryz.underlying5 Tryz.underlying9 (fun i hi=>by
      rw[Bo,Nat.zero_add,b0.cell];simp[byteCells,hi])
     rw[htl]at hcv;go_wp2_with fail
     go_at_call 66;refine(pp _).mono ?_;rintro e w2 ⟨rfl,hb2⟩;replace hB:=bt hB hb2;go_wp2_with fail
     go_ret2
     exact⟨⟨_,by rw[Hok.out];rfl,fun h=>(Hby.out h).symm⟩,hB⟩
theorem GK (m:Dm)(h64:m.bits.length=64)(hm:m.name.length<=maxLen)(w:World):Calls Tryz.prog 76 #[dmval m] w fun e w'=>(∃b,e=.returned (.tuple #[.string (bs b),.bool m.ok])/\(m.ok=true->b=m.bytes))/\Below w.heap.size w w':=by
 by_cases hz:m=Dm.zero
 · subst hz;refine(GL w).mono ?_;rintro e w' ⟨rfl,hb⟩;exact⟨⟨_,rfl,fun _=>rfl⟩,hb⟩
 · exact NW m h64 hm hz w
def bitsTo (t:List UInt8)(n:Nat):List Bool:=(List.range n).map (Dm.bitAt t)++List.replicate (64-n) false
theorem It (t:List UInt8){n:Nat}(h:n<=64):(bitsTo t n).length=64:=by simp[bitsTo];omega
theorem Iu (t:List UInt8){n:Nat}(h:n<64):(bitsTo t n).set n (Dm.bitAt t n)=bitsTo t (n+1):=by
 unfold bitsTo;rw[List.set_append,if_neg (by simp),List.length_map,List.length_range,Nat.sub_self,List.range_succ,List.map_append,show 64-n=(64-(n+1))+1 by omega,List.replicate_succ,List.set_cons_zero,List.append_assoc];rfl
theorem Is (t:List UInt8):bitsTo t 64=(List.range 64).map (Dm.bitAt t):=by simp[bitsTo]
theorem Ir (v:UInt8){s:Nat}(hs:s<8):(Go.bits .and .u8 (v.toNat:Int) ((2^s:Nat):Int) !=0)=v.toNat.testBit s:=by
 have hv:=v.toNat_lt;have hp:2^s<256:=Nat.pow_lt_pow_right (a:=2) (by omega) hs;rw[u8_and_nat _ _ (by omega) hp,nat_bit,Nat.testBit_eq_decide_div_mod_eq];have h2:v.toNat/2^s%2=0\/v.toNat/2^s%2=1:=by omega
 rcases h2 with h|h
 · rw[h];simp
 · rw[h,Nat.one_mul,decide_eq_true rfl];exact bne_iff_ne.2 (by have:0<2^s:=Nat.two_pow_pos s;omega)
def Dm.read (t:List UInt8):Dm:=⟨(toNameR (t.take 8)).1,decide (t.getD 8 0=1),(List.range 64).map (Dm.bitAt t)⟩
theorem Dm.read_bits (t:List UInt8):(Dm.read t).bits.length=64:=by simp[Dm.read]
theorem NV (t:List UInt8)(ht:t.length=64)(w:World):Calls Tryz.prog 108 #[.string (bs t)] w fun e w'=>e=.returned (dmval (Dm.read t))/\Below w.heap.size w w':=by
 have cn:=fun W=>Po (t.take 8) (by rw[List.length_take];unfold maxLen;omega) W
 have Hrd:=hid (show Dm.read t=⟨(toNameR (t.take 8)).1,decide (t.getD 8 0=1),bitsTo t 64⟩ by rw[Dm.read,Is]);generalize toNameR (t.take 8)=NE at*;obtain⟨nm,en⟩:=NE;simp only at cn Hrd;have h8:((((t[8]'(by omega)).toNat:Nat):Int)==1)=decide (t.getD 8 0=1):=by
  rw[List.getD_eq_getElem?_getD,List.getElem?_eq_getElem (by omega),Option.getD_some];generalize t[8]'(by omega)=c;by_cases h:c=1
  · subst h;rfl
  · rw[decide_eq_false h,beq_eq_false_iff_ne];intro h2;apply h;apply UInt8.toNat_inj.1;show c.toNat=1;omega
 generalize decide (t.getD 8 0=1)=us at*;have a36:=Tryz.dm_agg;have z36:=Tryz.dm_siz;have zc:=Tryz.dm_zeros;have Hbit:=hid (fun(n:Nat)(h:n<64)=>show Dm.bitAt t n=((t[16+n/8]'(by omega)).toNat).testBit (n%8) by rw[Dm.bitAt,List.getD_eq_getElem?_getD,List.getElem?_eq_getElem (by omega)];rfl);have hB:=Below.refl w.heap.size w;have r:=Blk.new w 42 (dmCells Dm.zero).toArray;have hB_1:=hB.alloc hB.size (.cells (dmCells Dm.zero).toArray 42);have v:=Blk.new (w.alloc (.cells (dmCells Dm.zero).toArray 42)) 42 (dmCells Dm.zero).toArray;simp only[Ys]at v;have vk:=Tryz.dm_all Dm.zero rfl v;have vkf:=v.fz;have hB_2:=hB_1.alloc hB_1.size (.cells (dmCells Dm.zero).toArray 42);have r_3:=Yc r hB_2;go_enter Tryz.func108,Tryz.ntmps108;go_wp2_with fail
 go_at_call 140;refine((cn _)).mono ?_;rintro e w1 ⟨rfl,hb1⟩;replace hB:=bt hB_2 hb1;replace r:=r_3.below hb1 r_3.lt;replace v:=v.below hb1 v.lt;replace vk:=Tryz.dm_all Dm.zero rfl v;replace vkf:=v.fz;clear hB_1 hB_2 r_3;go_wp2_with fail
 have v1:=CJ (Iy v nm) us;have r1:=(r.other (a:=⟨w.heap.size+1,0,none⟩) (by show w.heap.size≠w.heap.size+1;omega) (.string (bs nm))).other (a:=⟨w.heap.size+1,1,none⟩) (by show w.heap.size≠w.heap.size+1;omega) (.bool us);have hB1:=((hB).setCell (p:=⟨w.heap.size+1,0,none⟩) (by show w.heap.size<=w.heap.size+1;omega) (.string (bs nm))).setCell (p:=⟨w.heap.size+1,1,none⟩) (by show w.heap.size<=w.heap.size+1;omega) (.bool us);go_loopw [16] (fun k W=>∃n:Nat,n<=64/\k=.int .i64 n/\Blk W (w.heap.size+1) 42 (dmCells ⟨nm,us,bitsTo t n⟩).toArray/\Blk W w.heap.size 42 (dmCells Dm.zero).toArray/\Below w.heap.size w W) (fun k _=>64-(intOf k).toNat)
 case atStart=>exact⟨0,Nat.zero_le _,rfl,v1,r1,hB1⟩
 case round=>
  clear vk vkf v r hB v1 r1 hB1;obtain⟨n,hn,rfl,v,r,hB⟩:=hrel;by_cases hlt:n<64
  · obtain⟨j,hj⟩:∃j:Nat,16+n/8=j:=⟨_,rfl⟩;obtain⟨s,hs⟩:∃s:Nat,n%8=s:=⟨_,rfl⟩;have hb:=Hbit.out n hlt;have e2:=and7 ⟨n,hlt⟩;simp only at e2;have hj64:j<t.length:=by omega
    have hj65:((j:Nat):Int)<64:=by omega
    have hs8:s<8:=by omega
    have hs8':((s:Nat):Int)<=8:=by omega
    have e1:(16:Int)+(n:Int)/8=(j:Int):=by omega
    have hlen:=It t (n:=n) (by omega);obtain⟨o,c0⟩:∃o,wr.cell? ⟨w.heap.size+1,2+n,none⟩=some (.bool o):=⟨_,v.bit n (by show n<(bitsTo t n).length;omega)⟩;have f0:=v.frozen (2+n);have v1:=ER v n (Dm.bitAt t n);rw[Iu t hlt]at v1;have r1:=r.other (a:=⟨w.heap.size+1,2+n,none⟩) (by show w.heap.size≠w.heap.size+1;omega) (.bool (Dm.bitAt t n));have hB1:=hB.setCell (p:=⟨w.heap.size+1,2+n,none⟩) (by show w.heap.size<=w.heap.size+1;omega) (.bool (Dm.bitAt t n));have hp:2^s<256:=Nat.pow_lt_pow_right (a:=2) (by omega) hs8;have e3:IntKind.u8.wrap ((2:Int)^s)=((2^s:Nat):Int):=by
     rw[IntKind.wrap_u8',show((2:Int)^s)=((2^s:Nat):Int) by simp];exact Int.emod_eq_of_lt (Int.natCast_nonneg _) (Int.ofNat_lt.2 hp)
    have e4:=Ir (t[j]'hj64) hs8;rw[show(t[j]'hj64).toNat.testBit s=Dm.bitAt t n by rw[hb];subst hj hs;rfl]at e4;rw[hs]at e2;generalize 2^s=p at*;generalize Dm.bitAt t n=b at*;have V1:=hid v1;clear hj hs hb v v1 Hbit hlen hn;go_wp2_with fail
    go_region
    go_wp2_with fail
    go_roundw
    case rel=>exact⟨n+1,by omega,by go_num,V1.out.drew,r1.drew,hB1.drew⟩
    case measure=>simp[intOf];omega
  · obtain rfl:n=64:=by omega
    rw[<-Hrd.out]at v;have hM:=Dm.read_bits t;obtain⟨M,hMe⟩:∃M,Dm.read t=M:=⟨_,rfl⟩;rw[hMe]at v hM;have Hm:=hid hMe;clear hMe;have vk:=Tryz.dm_all M hM v;have st:=Tryz.dm_put (a:=Dm.zero) M hM rfl r;have hl:=AU hM;clear Hrd Hbit;go_wp2_with fail
    have r1:=AN (a:=Dm.zero) r M rfl hM;have yy:=Tryz.dm_all M hM r1;have b8:=AM hB (g:=w.heap.size) (by omega) M;refine bodyPost_ret (v:=dmval M) (by simp[results,Tryz.results108,go_sem,yy,a36,z36]) rfl ?_;rw[Hm.out];exact⟨rfl,b8⟩
theorem HQ (l:List UInt8):(toNameR l).1.length<=8:=by
 unfold toNameR
 split
 · simp
 split
 · rename_i h;exact C3 h
 · simp
theorem Dm.of_read {t:List UInt8}(h:t≠List.replicate 64 0):Dm.of t=Dm.read t:=by rw[Dm.of,if_neg h];rfl
theorem Dm.read_name (t:List UInt8):(Dm.read t).name.length<=8:=HQ _
theorem NT (D:Dk)(L:Pn)(p q p' q':Pl)(w:World)(hD:IsDk w D p q)(hL:IsPn w L p' q')(hf:D.fit=true)(hfl:L.Fit)(i:Nat)(hi:i<2):
 Calls Tryz.prog 107 #[dval D p q,pval L p' q',dmPlace i] w fun e w'=>e=.returned (.tuple #[dmval (Pn.dmGet D L i).1,.int .i64 (Pn.dmGet D L i).2])/\Below w.heap.size w w':=by
 have hlk:=fun(W:World)(hb:Below w.heap.size w W)=>L4 D L p q p' q' W (hD.below hb) (hL.below hb) (4+i) ((Dk.fit_parts hf).2.2.1) (by have:=hfl.2.1;omega) hfl.1
 have hfull:=Pn.look_full (k:=4+i) hf hfl;have hG:Pn.dmGet D L i=if(Pn.look D L (4+i)).2≠0 then(Dm.zero,(Pn.look D L (4+i)).2)else if Dm.good (Pn.look D L (4+i)).1=true then(Dm.of (Pn.look D L (4+i)).1,0)else(Dm.zero,14):=rfl
 obtain⟨S,hS⟩:∃S,Pn.look D L (4+i)=S:=⟨_,rfl⟩;obtain⟨s,er⟩:=S;rw[hS]at hlk hfull hG;simp only at hlk hfull hG;unfold dmPlace;generalize (4:Int)+(i:Int)=sec at*;have HG:=hid hG;have a36:=Tryz.dm_agg;have z36:=Tryz.dm_siz;have zc:=Tryz.dm_zeros;have lz:=AU (m:=Dm.zero) rfl;clear hS hi hD hL hf hfl hG;obtain⟨A1,a1⟩:=p;obtain⟨A2,a2⟩:=q;obtain⟨B1,b1⟩:=p';obtain⟨B2,b2⟩:=q';have hB:=Below.refl w.heap.size w;have x:=Blk.new w 25 #[.string (bs D.data),.slice A1 D.cache.length a1,.int .i64 D.fuse,.bool D.off,.slice A2 D.bad.length a2];have hB_1:=Ya hB x;have z:=Yd hB_1 63 #[.slice B1 L.targets.length b1,.slice B2 L.data.length b2];simp only[Ys]at z;have hB_2:=Ya hB_1 z;have x_3:=Yc x hB_2;have pl:=Yd hB_2 160 #[.int .i64 sec,.int .i64 0,.int .i64 64,.func (.func 76) #[] #[],.func (.func 108) #[] #[]];simp only[Ys]at pl;have plk:=blk5 pl;have hB_4:=Ya hB_2 pl;have x_5:=Yc x_3 hB_4;have z_6:=Yc z hB_4;have r:=Blk.new (((w.alloc (.cells #[.string (bs D.data),.slice A1 D.cache.length a1,.int .i64 D.fuse,.bool D.off,.slice A2 D.bad.length a2] 25)).alloc (.cells #[.slice B1 L.targets.length b1,.slice B2 L.data.length b2] 63)).alloc (.cells #[.int .i64 sec,.int .i64 0,.int .i64 64,.func (.func 76) #[] #[],.func (.func 108) #[] #[]] 160)) 42 (dmCells Dm.zero).toArray;simp only[Ys]at r;have hB_7:=hB_4.alloc hB_4.size (.cells (dmCells Dm.zero).toArray 42);have x_8:=Yc x_5 hB_7;have z_9:=Yc z_6 hB_7;have pl_10:=Yc pl hB_7;have v:=Blk.new ((((w.alloc (.cells #[.string (bs D.data),.slice A1 D.cache.length a1,.int .i64 D.fuse,.bool D.off,.slice A2 D.bad.length a2] 25)).alloc (.cells #[.slice B1 L.targets.length b1,.slice B2 L.data.length b2] 63)).alloc (.cells #[.int .i64 sec,.int .i64 0,.int .i64 64,.func (.func 76) #[] #[],.func (.func 108) #[] #[]] 160)).alloc (.cells (dmCells Dm.zero).toArray 42)) 42 (dmCells Dm.zero).toArray;simp only[Ys]at v;have vk:=Tryz.dm_all Dm.zero rfl v;have hB_11:=hB_7.alloc hB_7.size (.cells (dmCells Dm.zero).toArray 42);have x_12:=Yc x_8 hB_11;have z_13:=Yc z_9 hB_11;have pl_14:=Yc pl_10 hB_11;have r_15:=Yc r hB_11;have n:=Blk.new (((((w.alloc (.cells #[.string (bs D.data),.slice A1 D.cache.length a1,.int .i64 D.fuse,.bool D.off,.slice A2 D.bad.length a2] 25)).alloc (.cells #[.slice B1 L.targets.length b1,.slice B2 L.data.length b2] 63)).alloc (.cells #[.int .i64 sec,.int .i64 0,.int .i64 64,.func (.func 76) #[] #[],.func (.func 108) #[] #[]] 160)).alloc (.cells (dmCells Dm.zero).toArray 42)).alloc (.cells (dmCells Dm.zero).toArray 42)) 42 (dmCells Dm.zero).toArray;simp only[Ys]at n;have nk:=Tryz.dm_all Dm.zero rfl n;have hB_16:=hB_11.alloc hB_11.size (.cells (dmCells Dm.zero).toArray 42);have x_17:=Yc x_12 hB_16;have xk_17:=blk5 x_17;have z_18:=Yc z_13 hB_16;have zk_18:=blk2 z_18;have pl_19:=Yc pl_14 hB_16;have plk_19:=blk5 pl_19;have r_20:=Yc r_15 hB_16;have v_21:=Yc v hB_16;go_enter Tryz.func107,Tryz.ntmps107;go_wp2_with fail
 go_at_call 138;refine((hlk _ hB_16)).mono ?_;rintro e w1 ⟨rfl,hb1⟩;replace hB:=bt hB_16 hb1;replace x:=x_17.below hb1 x_17.lt;replace z:=z_18.below hb1 z_18.lt;replace pl:=pl_19.below hb1 pl_19.lt;replace plk:=blk5 pl;replace r:=r_20.below hb1 r_20.lt;replace v:=v_21.below hb1 v_21.lt;replace vk:=Tryz.dm_all Dm.zero rfl v;replace n:=n.below hb1 n.lt;replace nk:=Tryz.dm_all Dm.zero rfl n;clear hB_1 hB_2 x_3 hB_4 x_5 z_6 hB_7 x_8 z_9 pl_10 hB_11 x_12 z_13 pl_14 r_15 hB_16 xk_17 x_17 zk_18 z_18 plk_19 pl_19 r_20 v_21;by_cases he:er=0
 · subst he;have hs:=hfull rfl;have e1:List.take 64 s=s:=List.take_of_length_le (by omega);have c1:¬s.length<64:=by omega
   have HG2:=hid (show Pn.dmGet D L i=if Dm.good s=true then(Dm.of s,0)else(Dm.zero,14) by rw[HG.out];rfl);have htr:=fun W=>Tryz.strings_Trim_one (bs s) 0 (by decide) W (by rw[Ac];omega)
   rw[AY,Ad,Ad]at htr;replace htr:=fun W=>(htr W).mono (fun e w' h=>(⟨h.1,by rcases h.2 with rfl|rfl;exact Below.refl _ _;exact(Below.refl _ _).drew⟩:_/\Below W.heap.size W w'))
   clear HG hfull;by_cases hz:s=List.replicate 64 0
   · have Hg:=hid (show Pn.dmGet D L i=(Dm.zero,0) by
      have h1:Dm.of s=Dm.zero:=by rw[Dm.of,if_pos hz]
      have h2:Dm.good s=true:=by rw[Dm.good,h1,hz];decide
      rw[HG2.out,if_pos h2,h1])
     have h2:Lib.trimB s 0=[]:=by rw[hz];exact Ps 64
     rw[h2]at htr;have hws:=fun W=>GL W
     rw[<-hz]at hws;have d1:(s==s)=true:=beq_self_eq_true s;have d2:(s !=s)=false:=bne_self_eq_false s;clear hz h2 HG2;go_wp2_with fail
     go_at_call 139;refine((htr _)).mono ?_;rintro e w2 ⟨rfl,hb2⟩;replace hB:=bt hB hb2;replace x:=x.below hb2 x.lt;replace z:=z.below hb2 z.lt;replace pl:=pl.below hb2 pl.lt;replace plk:=blk5 pl;replace r:=r.below hb2 r.lt;replace v:=v.below hb2 v.lt;replace vk:=Tryz.dm_all Dm.zero rfl v;replace n:=n.below hb2 n.lt;replace nk:=Tryz.dm_all Dm.zero rfl n;go_wp2_with fail
     go_at_call 76;refine((hws _)).mono ?_;rintro e w3 ⟨rfl,hb3⟩;replace hB:=bt hB hb3;replace x:=x.below hb3 x.lt;replace z:=z.below hb3 z.lt;replace pl:=pl.below hb3 pl.lt;replace plk:=blk5 pl;replace r:=r.below hb3 r.lt;replace v:=v.below hb3 v.lt;replace vk:=Tryz.dm_all Dm.zero rfl v;replace n:=n.below hb3 n.lt;replace nk:=Tryz.dm_all Dm.zero rfl n;have st:=Tryz.dm_put (a:=Dm.zero) Dm.zero rfl rfl r;go_wp2_with fail
     have yy:=Tryz.dm_all Dm.zero rfl (AN (a:=Dm.zero) r Dm.zero rfl rfl);have b8:=AM hB (g:=w.heap.size+1+1+1) (by omega) Dm.zero;refine bodyPost_ret (v:=.tuple #[dmval Dm.zero,.int .i64 0]) (by simp[results,Tryz.results107,go_sem,yy,a36,z36]) rfl ?_;rw[Hg.out];exact⟨rfl,b8⟩
   · have hne:Lib.trimB s 0≠[]:=Pr (by rw[hs];exact hz);have hrd:=fun W=>NV s hs W
     have hM:=Dm.read_bits s;have hMn:(Dm.read s).name.length<=maxLen:=by have:=Dm.read_name s;unfold maxLen;omega
     have hof:=Dm.of_read hz;obtain⟨M,hMe⟩:∃M,Dm.read s=M:=⟨_,rfl⟩;rw[hMe]at hrd hM hMn hof;have lM:=AU hM;have hws:=fun W=>GK M hM hMn W
     have HG3:=hid (show Pn.dmGet D L i=if M.ok=true/\M.bytes=s then(M,0)else(Dm.zero,14) by
      rw[HG2.out,Dm.good,hof];by_cases h1:M.ok=true
      · by_cases h2:M.bytes=s
        · rw[if_pos (by rw[h1,decide_eq_true h2];rfl),if_pos ⟨h1,h2⟩]
        · rw[if_neg (by rw[decide_eq_false h2];simp),if_neg (fun h=>h2 h.2)]
      · rw[if_neg (by simp[h1]),if_neg (fun h=>h1 h.1)])
     have dT2:(Lib.trimB s 0==[])=false:=beq_eq_false_iff_ne.2 hne;generalize Lib.trimB s 0=tt at*;clear hne HG2 hof hMe hz;cases hk:M.ok with
     |false=>
      have Hg:=hid (show Pn.dmGet D L i=(Dm.zero,14) by rw[HG3.out,if_neg (by rw[hk];simp)]);rw[hk]at hws;clear HG3 hk;go_wp2_with fail
      go_at_call 139;refine((htr _)).mono ?_;rintro e w2 ⟨rfl,hb2⟩;replace hB:=bt hB hb2;replace x:=x.below hb2 x.lt;replace z:=z.below hb2 z.lt;replace pl:=pl.below hb2 pl.lt;replace plk:=blk5 pl;replace r:=r.below hb2 r.lt;replace v:=v.below hb2 v.lt;replace vk:=Tryz.dm_all Dm.zero rfl v;replace n:=n.below hb2 n.lt;replace nk:=Tryz.dm_all Dm.zero rfl n;go_wp2_with fail
      go_at_call 108;refine((hrd _)).mono ?_;rintro e w3 ⟨rfl,hb3⟩;replace hB:=bt hB hb3;replace x:=x.below hb3 x.lt;replace z:=z.below hb3 z.lt;replace pl:=pl.below hb3 pl.lt;replace plk:=blk5 pl;replace r:=r.below hb3 r.lt;replace v:=v.below hb3 v.lt;replace vk:=Tryz.dm_all Dm.zero rfl v;replace n:=n.below hb3 n.lt;replace nk:=Tryz.dm_all Dm.zero rfl n;have sv:=Tryz.dm_put (a:=Dm.zero) M hM rfl v;have hB_22:=AM hB (g:=w.heap.size+1+1+1+1) (by omega) M;have x_23:=AK x (g:=w.heap.size+1+1+1+1) (by omega) M;have z_24:=AK z (g:=w.heap.size+1+1+1+1) (by omega) M;have pl_25:=AK pl (g:=w.heap.size+1+1+1+1) (by omega) M;have plk_25:=blk5 pl_25;have r_26:=AK r (g:=w.heap.size+1+1+1+1) (by omega) M;have v_27:=AN v M rfl hM;have vk_27:=Tryz.dm_all M hM v_27;have n_28:=AK n (g:=w.heap.size+1+1+1+1) (by omega) M;go_wp2_with fail
      go_at_call 76;refine((hws _)).mono ?_;rintro e w4 ⟨⟨b,rfl,hbt⟩,hb4⟩;replace hB:=bt hB_22 hb4;replace x:=x_23.below hb4 x_23.lt;replace z:=z_24.below hb4 z_24.lt;replace pl:=pl_25.below hb4 pl_25.lt;replace plk:=blk5 pl;replace r:=r_26.below hb4 r_26.lt;replace v:=v_27.below hb4 v_27.lt;replace vk:=Tryz.dm_all M hM v;replace n:=n_28.below hb4 n_28.lt;replace nk:=Tryz.dm_all Dm.zero rfl n;clear hB_22 x_23 z_24 plk_25 pl_25 r_26 vk_27 v_27 n_28;clear hbt;have st:=Tryz.dm_put (a:=Dm.zero) Dm.zero rfl rfl r;go_wp2_with fail
      have yy:=Tryz.dm_all Dm.zero rfl (AN (a:=Dm.zero) r Dm.zero rfl rfl);have b8:=AM hB (g:=w.heap.size+1+1+1) (by omega) Dm.zero;refine bodyPost_ret (v:=.tuple #[dmval Dm.zero,.int .i64 14]) (by simp[results,Tryz.results107,go_sem,yy,a36,z36]) rfl ?_;rw[Hg.out];exact⟨rfl,b8⟩
     |true=>
      rw[hk]at hws;obtain⟨T9,hT9⟩:∃T,M.bytes=T:=⟨_,rfl⟩;by_cases hq:T9=s
      · have Hg:=hid (show Pn.dmGet D L i=(M,0) by rw[HG3.out,if_pos ⟨hk,hT9.trans hq⟩]);subst hq;have d2:(T9 !=T9)=false:=bne_self_eq_false T9;have d1:(T9==T9)=true:=beq_self_eq_true T9;rw[hT9]at hws;clear HG3 hk hT9;go_wp2_with fail
        go_at_call 139;refine((htr _)).mono ?_;rintro e w2 ⟨rfl,hb2⟩;replace hB:=bt hB hb2;replace x:=x.below hb2 x.lt;replace z:=z.below hb2 z.lt;replace pl:=pl.below hb2 pl.lt;replace plk:=blk5 pl;replace r:=r.below hb2 r.lt;replace v:=v.below hb2 v.lt;replace vk:=Tryz.dm_all Dm.zero rfl v;replace n:=n.below hb2 n.lt;replace nk:=Tryz.dm_all Dm.zero rfl n;go_wp2_with fail
        go_at_call 108;refine((hrd _)).mono ?_;rintro e w3 ⟨rfl,hb3⟩;replace hB:=bt hB hb3;replace x:=x.below hb3 x.lt;replace z:=z.below hb3 z.lt;replace pl:=pl.below hb3 pl.lt;replace plk:=blk5 pl;replace r:=r.below hb3 r.lt;replace v:=v.below hb3 v.lt;replace vk:=Tryz.dm_all Dm.zero rfl v;replace n:=n.below hb3 n.lt;replace nk:=Tryz.dm_all Dm.zero rfl n;have sv:=Tryz.dm_put (a:=Dm.zero) M hM rfl v;have hB_22:=AM hB (g:=w.heap.size+1+1+1+1) (by omega) M;have x_23:=AK x (g:=w.heap.size+1+1+1+1) (by omega) M;have z_24:=AK z (g:=w.heap.size+1+1+1+1) (by omega) M;have pl_25:=AK pl (g:=w.heap.size+1+1+1+1) (by omega) M;have plk_25:=blk5 pl_25;have r_26:=AK r (g:=w.heap.size+1+1+1+1) (by omega) M;have v_27:=AN v M rfl hM;have vk_27:=Tryz.dm_all M hM v_27;have n_28:=AK n (g:=w.heap.size+1+1+1+1) (by omega) M;go_wp2_with fail
        go_at_call 76;refine((hws _)).mono ?_;rintro e w4 ⟨⟨b,rfl,hbt⟩,hb4⟩;replace hB:=bt hB_22 hb4;replace x:=x_23.below hb4 x_23.lt;replace z:=z_24.below hb4 z_24.lt;replace pl:=pl_25.below hb4 pl_25.lt;replace plk:=blk5 pl;replace r:=r_26.below hb4 r_26.lt;replace v:=v_27.below hb4 v_27.lt;replace vk:=Tryz.dm_all M hM v;replace n:=n_28.below hb4 n_28.lt;replace nk:=Tryz.dm_all Dm.zero rfl n;clear hB_22 x_23 z_24 plk_25 pl_25 r_26 vk_27 v_27 n_28;obtain rfl:b=T9:=hbt (by first|rfl|trivial);clear hbt;have st:=Tryz.dm_put (a:=Dm.zero) M hM rfl r;go_wp2_with fail
        have yy:=Tryz.dm_all M hM (AN (a:=Dm.zero) r M rfl hM);have b8:=AM hB (g:=w.heap.size+1+1+1) (by omega) M;refine bodyPost_ret (v:=.tuple #[dmval M,.int .i64 0]) (by simp[results,Tryz.results107,go_sem,yy,a36,z36]) rfl ?_;rw[Hg.out];exact⟨rfl,b8⟩
      · have Hg:=hid (show Pn.dmGet D L i=(Dm.zero,14) by rw[HG3.out,if_neg (fun h=>hq (hT9.symm.trans h.2))]);have d2:(T9 !=s)=true:=bne_iff_ne.2 hq;have d1:(T9==s)=false:=beq_eq_false_iff_ne.2 hq;rw[hT9]at hws;clear HG3 hk hT9 hq;go_wp2_with fail
        go_at_call 139;refine((htr _)).mono ?_;rintro e w2 ⟨rfl,hb2⟩;replace hB:=bt hB hb2;replace x:=x.below hb2 x.lt;replace z:=z.below hb2 z.lt;replace pl:=pl.below hb2 pl.lt;replace plk:=blk5 pl;replace r:=r.below hb2 r.lt;replace v:=v.below hb2 v.lt;replace vk:=Tryz.dm_all Dm.zero rfl v;replace n:=n.below hb2 n.lt;replace nk:=Tryz.dm_all Dm.zero rfl n;go_wp2_with fail
        go_at_call 108;refine((hrd _)).mono ?_;rintro e w3 ⟨rfl,hb3⟩;replace hB:=bt hB hb3;replace x:=x.below hb3 x.lt;replace z:=z.below hb3 z.lt;replace pl:=pl.below hb3 pl.lt;replace plk:=blk5 pl;replace r:=r.below hb3 r.lt;replace v:=v.below hb3 v.lt;replace vk:=Tryz.dm_all Dm.zero rfl v;replace n:=n.below hb3 n.lt;replace nk:=Tryz.dm_all Dm.zero rfl n;have sv:=Tryz.dm_put (a:=Dm.zero) M hM rfl v;have hB_22:=AM hB (g:=w.heap.size+1+1+1+1) (by omega) M;have x_23:=AK x (g:=w.heap.size+1+1+1+1) (by omega) M;have z_24:=AK z (g:=w.heap.size+1+1+1+1) (by omega) M;have pl_25:=AK pl (g:=w.heap.size+1+1+1+1) (by omega) M;have plk_25:=blk5 pl_25;have r_26:=AK r (g:=w.heap.size+1+1+1+1) (by omega) M;have v_27:=AN v M rfl hM;have vk_27:=Tryz.dm_all M hM v_27;have n_28:=AK n (g:=w.heap.size+1+1+1+1) (by omega) M;go_wp2_with fail
        go_at_call 76;refine((hws _)).mono ?_;rintro e w4 ⟨⟨b,rfl,hbt⟩,hb4⟩;replace hB:=bt hB_22 hb4;replace x:=x_23.below hb4 x_23.lt;replace z:=z_24.below hb4 z_24.lt;replace pl:=pl_25.below hb4 pl_25.lt;replace plk:=blk5 pl;replace r:=r_26.below hb4 r_26.lt;replace v:=v_27.below hb4 v_27.lt;replace vk:=Tryz.dm_all M hM v;replace n:=n_28.below hb4 n_28.lt;replace nk:=Tryz.dm_all Dm.zero rfl n;clear hB_22 x_23 z_24 plk_25 pl_25 r_26 vk_27 v_27 n_28;obtain rfl:b=T9:=hbt (by first|rfl|trivial);clear hbt;have st:=Tryz.dm_put (a:=Dm.zero) Dm.zero rfl rfl r;go_wp2_with fail
        have yy:=Tryz.dm_all Dm.zero rfl (AN (a:=Dm.zero) r Dm.zero rfl rfl);have b8:=AM hB (g:=w.heap.size+1+1+1) (by omega) Dm.zero;refine bodyPost_ret (v:=.tuple #[dmval Dm.zero,.int .i64 14]) (by simp[results,Tryz.results107,go_sem,yy,a36,z36]) rfl ?_;rw[Hg.out];exact⟨rfl,b8⟩
 · have n1:(er !=0)=true:=bne_iff_ne.2 he;have Hg:=hid (show Pn.dmGet D L i=(Dm.zero,er) by rw[HG.out,if_pos he]);clear he hfull;have st:=Tryz.dm_put (a:=Dm.zero) Dm.zero rfl rfl r;go_wp2_with fail
   have yy:=Tryz.dm_all Dm.zero rfl (AN (a:=Dm.zero) r Dm.zero rfl rfl);have b8:=AM hB (g:=w.heap.size+1+1+1) (by omega) Dm.zero;refine bodyPost_ret (v:=.tuple #[dmval Dm.zero,.int .i64 er]) (by simp[results,Tryz.results107,go_sem,yy,a36,z36]) rfl ?_;rw[Hg.out];exact⟨rfl,b8⟩
end
end Go.Proofs.YtmiilfnchfdfcaaGreatDoor
