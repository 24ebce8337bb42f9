/- Be: Base, Mem, PackLaw, Plain1, TableLaw. -/
import Derived.RangeFuncNested
import Derived.RangeFuncBound
import Derived.Shelf.Abstract
import Derived.WalkKit
import Derived.WalkSpells
import Derived.WalkLawsBesides
import Derived.OwnWalkIn
import Derived.TacticsInMore
import Derived.LoopNIn
import Derived.LoopIn
import Derived.Lib.Hide
import Derived.Lib.Strings
import Derived.Deep.QuietTactic
import Derived.BigQuiet
import Derived.Test.YtmiilfnchfdfcaaGreatDoorProg
import Derived.Deep.AppendLies
import Derived.Laws.AppendOwnNone
import Derived.Shelf.GgClosure.StringsIndexFunc
set_option maxRecDepth 100000
set_option maxHeartbeats 40000000
set_option linter.unusedVariables false
namespace Go.Proofs.YtmiilfnchfdfcaaGreatDoor
section
open Go.RowKit Go.Shelf
def bs (l:List UInt8):ByteArray:=⟨l.toArray⟩
theorem CW (s:ByteArray):∃l,s=bs l:=⟨s.data.toList,by simp[bs]⟩
theorem Ad (l:List UInt8):(⟨l.toArray⟩:ByteArray)=bs l:=rfl
theorem A9 (l:List UInt8):(bs l).data.toList=l:=by simp[bs]
theorem Ai (l:List UInt8):(bs l).toList=l:=by rw[Lib.toList_data,A9]
theorem Ab (l:List UInt8):(bs l).size=l.length:=by simp[bs,ByteArray.size]
theorem Ah (l:List UInt8)(i:Nat)(h:i<(bs l).size):(bs l)[i]'h=l[i]'(by rw[Ab]at h;exact h):=by
 simp[bs,ByteArray.getElem_eq_getElem_data]
theorem Af (a b:List UInt8):bs a++bs b=bs (a++b):=by
 apply ByteArray.ext;simp[bs]
theorem Ag (l:List UInt8)(i j:Nat):(bs l).extract i j=bs ((l.take j).drop i):=by
 apply ByteArray.ext
 simp[bs,List.extract_eq_take_drop,List.drop_take]
theorem JL:(⟨#[]⟩:ByteArray)=bs []:=rfl
def Blk (W:World)(g:Nat)(t:TypeId)(cs:Array Value):Prop:=W.heap[g]? =some (.cells cs t (0,0))
section
variable {W W':World} {g:Nat} {t:TypeId} {cs:Array Value}
theorem Blk.lt (h:Blk W g t cs):g<W.heap.size:=(Array.getElem?_eq_some_iff.1 h).1
theorem Blk.kept {row:Option Nat}(h:Blk W g t cs)(hg:W.grownBy W' row)(hne:some g≠row):Blk W' g t cs:=(hg.block g h.lt hne).trans h
theorem Blk.below {B:Nat}(h:Blk W g t cs)(hb:Below B W W')(hg:g<B):Blk W' g t cs:=(hb.block g hg).trans h
theorem Blk.alloc (h:Blk W g t cs)(o:Obj):Blk (W.alloc o) g t cs:=h.kept (World.grownBy_alloc W o none) (by simp)
theorem Blk.cell (h:Blk W g t cs)(j:Nat):W.cell? ⟨g,j,none⟩=cs[j]? :=by simp[World.cell?,show W.heap[g]? =_ from h]
theorem Blk.frozen (h:Blk W g t cs)(j:Nat):W.frozen? ⟨g,j,none⟩=false:=by simp[World.frozen?,show W.heap[g]? =_ from h]
theorem Blk.new (W:World)(t:TypeId)(cs:Array Value):Blk (W.alloc (.cells cs t)) W.heap.size t cs:=World.alloc_heap_new W _
theorem Blk.set (h:Blk W g t cs)(j:Nat)(v:Value):Blk (W.setCell ⟨g,j,none⟩ v) g t (cs.setIfInBounds j v):=by
 obtain⟨hlt,hk⟩:=Array.getElem?_eq_some_iff.1 h;show(W.heap.modify g _)[g]? =_;rw[Array.getElem?_eq_getElem (by rw[Array.size_modify];exact hlt),Array.getElem_modify_self,hk];rfl
theorem Blk.other (h:Blk W g t cs){a:Addr}(hne:g≠a.block)(v:Value):Blk (W.setCell a v) g t cs:=(Below.heap_setCell W a v g hne).trans h
theorem Blk.drew (h:Blk W g t cs):Blk W.drew g t cs:=h
theorem Blk.drewN (h:Blk W g t cs)(n:Nat):Blk (W.drewN n) g t cs:=h
theorem AE {β:Type}(g:Nat)(t:TypeId)(f:β->Array Value):Own (fun s W=>Blk W g t (f s)):=fun s X Y row hs hg hrow=>
 hs.kept hg (fun e'=>by obtain⟨o,ho,hc⟩:=hrow g e'.symm;rw[show X.heap[g]? =_ from hs]at ho;cases ho;cases hc)
theorem Own.and {β:Type}{I I':β->World->Prop}(h:Own I)(h':Own I'):Own (fun s W=>I s W/\I' s W):=fun s W W' row hs hg hr=>⟨h s W W' row hs.1 hg hr,h' s W W' row hs.2 hg hr⟩
end
theorem Ik {k:IntKind}{a b:Int}(h:a=b):Value.int k a=Value.int k b:=by rw[h]
theorem hid {p:Prop}(h:p):Hid p:=h
def byteCells (l:List UInt8):Array Value:=(l.map fun b=>Value.int .u8 b.toNat).toArray
theorem BX {B:Nat}{a w:World}(h:Below B a w)(n:Nat):Below B a (w.drewN n):=⟨h.os,h.tape,h.output,h.size,h.block⟩
theorem Gi (w:World)(n:Nat):Below w.heap.size w (w.drewN n):=BX (Below.refl _ _) n
theorem bt {w w1 w2:World}(h:Below w.heap.size w w1)(k:Below w1.heap.size w1 w2):Below w.heap.size w w2:=h.trans (k.mono h.size)
theorem Blk.bl {W W':World}{g:Nat}{t:TypeId}{cs:Array Value}(h:Blk W g t cs)(hb:Below W.heap.size W W'):Blk W' g t cs:=h.below hb h.lt
theorem Y0 (w:World):Below w.heap.size w w:=Below.refl _ _
abbrev CR (f:FuncId)(xs:Array Value)(w:World)(v:Value):Prop:=Calls Tryz.prog f xs w fun e w'=>e=.returned v/\Below w.heap.size w w'
abbrev CX (f:FuncId)(xs:Array Value)(w:World)(R:Ending->World->Prop):Prop:=Calls Tryz.prog f xs w fun e w'=>R e w'/\Below w.heap.size w w'
theorem Blk.fz {W:World}{g:Nat}{t:TypeId}{cs:Array Value}(h:Blk W g t cs)(j:Nat):W.frozen? ⟨g,j,none⟩=false:=h.frozen j
theorem Yx {B:Nat}{u W:World}{g o:Nat}{v:Value}{k:Nat}{t:TypeId}{cs:Array Value}(h:Blk W k t cs)(hb:Below B u (W.setCell ⟨g,o,none⟩ v))(hk:k≠g):Blk (W.setCell ⟨g,o,none⟩ v) k t cs:=h.other hk v
theorem Ya {u W:World}{o:Obj}{a:Nat}{k:TypeId}{A:Array Value}(h:Below u.heap.size u W)(x:Blk (W.alloc o) a k A):Below u.heap.size u (W.alloc o):=h.alloc h.size o
theorem Yb {u W:World}{o:Obj}{b:Nat}(h:Below b u (W.alloc o)):Below W.heap.size W (W.alloc o):=(Below.refl _ _).alloc (Nat.le_refl _) o
theorem Yc {u W:World}{o:Obj}{a b:Nat}{k:TypeId}{A:Array Value}(x:Blk W a k A)(h:Below b u (W.alloc o)):Blk (W.alloc o) a k A:=x.alloc o
theorem Yd {u W:World}{b:Nat}(h:Below b u W)(k:TypeId)(A:Array Value):Blk (W.alloc (.cells A k)) W.heap.size k A:=Blk.new W k A
theorem Ye {α:Type _}:(∀(xs:List α)(i:Nat)(a:α),xs.toArray.setIfInBounds i a=(xs.set i a).toArray)/\(∀(x:α)(xs:List α)(a:α),(x::xs).set 0 a=a::xs)/\(∀(x:α)(xs:List α)(n:Nat)(a:α),(x::xs).set (n+1) a=x::xs.set n a):=⟨fun _ _ _=>List.setIfInBounds_toArray ..,fun _ _ _=>rfl,fun _ _ _ _=>rfl⟩
theorem Yn {α:Type _}:(∀xs:List α,xs.toArray.size=xs.length)/\(∀(a:α)(xs:List α),(a::xs).length=xs.length+1)/\(([]:List α).length=0)/\(∀(n:Nat)(a:α),Array.replicate (n+1) a=(Array.replicate n a).push a)/\(∀a:α,Array.replicate 0 a=#[])/\(∀(l:List α)(a:α),l.toArray.push a=(l++[a]).toArray)/\(∀xs ys:List α,xs.toArray++ys.toArray=(xs++ys).toArray)/\(∀xs:List α,[]++xs=xs)/\(∀(a:α)(xs ys:List α),a::xs++ys=a::(xs++ys)):=⟨fun _=>List.size_toArray,fun _ _=>rfl,rfl,fun _ _=>Array.replicate_succ,fun _=>Array.replicate_zero,fun _ _=>List.push_toArray ..,fun _ _=>List.append_toArray ..,fun _=>rfl,fun _ _ _=>rfl⟩
theorem Yz {W:World}(o:Obj):Below W.heap.size W (W.alloc o):=(Below.refl _ _).alloc (Nat.le_refl _) o
theorem Ys (w:World)(o:Obj):(w.alloc o).heap.size=w.heap.size+1:=World.size_alloc ..
theorem Yf:(∀(a:Act)(d:Tmp)(v:Value),a.put (some d) v={a with tmps:=a.tmps.setIfInBounds d v})/\(∀(a:Act)(v:Value),a.put none v=a)/\(∀(xs:List Value)(i:Nat)(a:Value),xs.toArray.setIfInBounds i a=(xs.set i a).toArray)/\(∀(x:Value)(xs:List Value)(a:Value),(x::xs).set 0 a=a::xs)/\(∀(x:Value)(xs:List Value)(n:Nat)(a:Value),(x::xs).set (n+1) a=x::xs.set n a):=⟨fun _ _ _=>rfl,fun _ _=>rfl,fun _ _ _=>List.setIfInBounds_toArray ..,fun _ _ _=>rfl,fun _ _ _ _=>rfl⟩
structure Ext (w:World) where
 world:World
 below:Below w.heap.size w world
instance extInhabited (w:World):Nonempty (Ext w):=⟨⟨w,Below.refl _ _⟩⟩
theorem Ext.cell {w:World}{a:Addr}{v:Value}(h:w.cell? a=some v)(p:Ext w):p.world.cell? a=some v:=by
 have hb:a.block<w.heap.size:=by
  rcases Nat.lt_or_ge a.block w.heap.size with h'|h'
  · exact h'
  · rw[World.cell?,Array.getElem?_eq_none h']at h;cases h
 rw[p.below.cell hb];exact h
theorem Az {P:Program}{id:Nat}{Q:Exit->Act->World->Prop}{a:Act}{w:World}{l:List Oper}(hm:P.follows .mixedOrders=true)(hB:Region.lexB .any l.toArray=true)
 (h:wpQuiet P l.toArray (fun w'=>∃p:Ext w,w'=p.world) (fun a'=>∀w',(∃p:Ext w,w'=p.world)->Q .normal a' w') l a):(Code.region id l.toArray true).wp P Q a w:=
 wp_region_quiet (C:=fun w'=>∃p:Ext w,w'=p.world) hm hB ⟨⟨w.drew,(Below.refl _ _).drew⟩,rfl⟩ (by simpa using h)
theorem An {P:Program}{f:FuncId}{args:Array Value}{w:World}{p:Ext w}{v:Value}
 (h:Calls P f args p.world fun e w'=>e=.returned v/\Below p.world.heap.size p.world w'):Calls P f args p.world fun e w''=>e=.returned v/\∃q:Ext w,w''=q.world:=
 h.mono fun _ w'' ⟨he,hb⟩=>⟨he,⟨w'',bt p.below hb⟩,rfl⟩
theorem BK {P:Program}(t e:TypeId)(i:TypeInfo)(z:Value)(ht:P.underlying t=some (.slice e))(hi:P.info? e=some i)(hz:i.zero=some z)
 (kl kc:IntKind) (n c:Nat) (hnc:n<=c) (hbytes:i.bytes*c<=281474976710656) (h63:c<=9223372036854775807) (w:World):
 (Instr.makeSlice t (.int kl (n:Int)) (.int kc (c:Int))).run P w=.ok (.slice (some ⟨w.heap.size,0,none⟩) n c) (w.alloc (.cells (madeCells z.cells (c*i.size)) e)):=by
 have hb:(i.bytes:Int)*(c:Int)<=281474976710656:=by
  have h:((i.bytes*c:Nat):Int)<=281474976710656:=by omega
  rwa [Int.natCast_mul]at h
 have hr:=run_make (P:=P) w t e i z ht hi hz kl kc n c (by omega) (by omega) hb (by omega);simp only[Int.toNat_natCast]at hr;exact hr
theorem Bb {w:World}{a:Addr}{v:Value}(h:w.cell? a=some v):a.block<w.heap.size:=by
 rcases Nat.lt_or_ge a.block w.heap.size with h'|h'
 · exact h'
 · rw[World.cell?,Array.getElem?_eq_none h']at h;cases h
theorem Av {w w':World}{a:Addr}{v:Value}(hb:Below w.heap.size w w')(h:w.cell? a=some v):w'.cell? a=some v:=by
 rw[hb.cell (Bb h)];exact h
def Cells (w:World)(A:Option Addr)(cs:List Value):Prop:=
 cs=[]\/∃b off,A=some ⟨b,off,none⟩/\∀j u,cs[j]? =some u->w.cell? ⟨b,off+j,none⟩=some u
section
variable {w w':World} {A:Option Addr} {cs:List Value}
theorem Cells.nil:Cells w A []:=.inl rfl
theorem Cells.below (h:Cells w A cs)(hb:Below w.heap.size w w'):Cells w' A cs:=by
 rcases h with h|⟨b,off,e,hc⟩
 · exact .inl h
 · exact .inr ⟨b,off,e,fun j u hu=>Av hb (hc j u hu)⟩
theorem Cells.take (h:Cells w A cs)(n:Nat):Cells w A (cs.take n):=by
 rcases h with h|⟨b,off,e,hc⟩
 · exact .inl (by rw[h];simp)
 · refine .inr ⟨b,off,e,fun j u hu=>hc j u ?_⟩;rw[List.getElem?_take]at hu
   split at hu
   · exact hu
   · cases hu
theorem Cells.setCell (h:Cells w A cs){p:Addr}(hne:∀b off,A=some ⟨b,off,none⟩->b≠p.block)(v:Value):Cells (w.setCell p v) A cs:=by
 rcases h with h|⟨b,off,e,hc⟩
 · exact .inl h
 · exact .inr ⟨b,off,e,fun j u hu=>by
    rw[World.cell?_setCell_other _ _ _ _ (by rintro rfl;exact hne b off e rfl)];exact hc j u hu⟩
theorem Cells.set5 (h:Cells w A cs){g:Nat}(hne:∀b off,A=some ⟨b,off,none⟩->b≠g)(v0 v1 v2 v3 v4:Value):
 Cells (((((w.setCell ⟨g,0,none⟩ v0).setCell ⟨g,1,none⟩ v1).setCell ⟨g,2,none⟩ v2).setCell ⟨g,3,none⟩ v3).setCell ⟨g,4,none⟩ v4) A cs:=
 ((((h.setCell (p:=⟨g,0,none⟩) hne v0).setCell (p:=⟨g,1,none⟩) hne v1).setCell (p:=⟨g,2,none⟩) hne v2).setCell (p:=⟨g,3,none⟩) hne v3).setCell (p:=⟨g,4,none⟩) hne v4
theorem AF {base:Nat}{e:TypeId}{size n c:Nat}(h:w.ownsRow base e size (.slice A n c) n cs){g:Nat}(hg:g<base):∀b off,A=some ⟨b,off,none⟩->b≠g:=by
 intro b off he;subst he;have:=(h.lt b rfl).1;omega
theorem Cells.of_own {base:Nat}{e:TypeId}{size n c:Nat}(h:w.ownsRow base e size (.slice A n c) n cs):Cells w A cs:=by
 rcases Nat.eq_zero_or_pos n with hn|hn
 · left
   have:=h.1;rw[hn,Nat.zero_mul]at this;exact List.length_eq_zero_iff.1 this
 · obtain⟨g,cap,hv,_,_⟩:=h.form hn;have hA:A=some ⟨g,0,none⟩:=by injection hv
   refine .inr ⟨g,0,hA,fun j u hu=>?_⟩;subst hA;have:=h.cells (g:=g) rfl j u hu;rw[show(0+j)=j by omega];have e:(Addr.add ⟨g,0,none⟩ j)=⟨g,j,none⟩:=by simp only[Addr.add];split<;>simp_all
   rw[e]at this;exact this
end
theorem Bj (b off j:Nat):(Addr.add ⟨b,off,none⟩ j)=⟨b,off+j,none⟩:=by
 simp only[Addr.add];split<;>simp_all
theorem AW {w w':World}{base:Nat}{e:TypeId}{size n:Nat}{v:Value}{xs:List Value}(h:w.ownsRow base e size v n xs)(hg:w.grownBy w' v.ownBlock)(hB:base<=w.heap.size):Below base w w':=
 (Below.refl base w).grown hg hB (fun k hk=>(h.lt k hk).1)
theorem Bg {P:Program}{w:World}{ops:Array Oper}{rest:List Oper}{o:Oper}{a:Act}{Q:Exit->Act->World->Prop}(hgd:o.guard=none)(s x:Operand)(t:TypeId)
 (ho:o.op=.call {callee:=.builtin .append,args:=#[s,x],argTypes:=#[t,t]})
 (base:Nat) (e:TypeId) (i:TypeInfo) (z:Value) (size bytes:Nat) (ht:P.underlying t=some (.slice e)) (hi:P.info? e=some i) (hz:i.zero=some z)
 (hsize:i.size=size) (hby:i.bytes=bytes) (hzs:z.cells.size=size) (hsz:0<size)
 (v:Value) (n:Nat) (xs:List Value) (hs:a.eval s=v) (hown:w.ownsRow base e size v n xs)
 (A:Option Addr) (m c:Nat) (news:List Value) (hx:a.eval x=.slice A m c) (hc:Cells w A news) (hl:news.length=m*size) (hnil:A=none->c=0) (h1:∀u∈news,u.oneCell'=true)
 (h63:n+m<=maxLen) (hbytes:(n+m)*bytes<=140737488355328) (hbase:base<=w.heap.size)
 (h:∀v' w',w'.ownsRow base e size v' (n+m) (xs++news)->Below base w w'->wpList P ops Q rest (a.put o.dst v') w'):wpList P ops Q (o::rest) a w:=by
 cases A with
 |none=>
  have a0:news=[]:=by
   rcases hc with h|⟨b,off,he,_⟩
   · exact h
   · cases he
  have hm:m=0:=by
   rw[a0]at hl
   rcases Nat.eq_zero_or_pos m with h|h
   · exact h
   · have:=Nat.mul_pos h hsz;simp at hl;omega
  obtain rfl:=hnil rfl;subst hm;rw[a0,List.append_nil,Nat.add_zero]at h;exact wpList_append_own_none hgd s x t ho base e i size ht hi v n xs hs hown hx (h v w hown (Below.refl _ _))
 |some ad=>
  refine wpList_append_own _ hgd s x t ho base e i z size bytes ht hi hz hsize hby hzs hsz v n xs hs hown ad m c news hx hl ?_ h1 h63 hbytes hbase (fun v' w' h2 h3 _=>h v' w' h2 (AW hown h3 hbase));intro j u hu
  rcases hc with h|⟨b,off,he,hcell⟩
  · rw[h]at hu;cases hu
  · injection he with he
    rw[he,Bj];exact hcell j u hu
theorem FI (w:World)(l:List Value)(t:TypeId):Cells (w.alloc (.cells l.toArray t)) (some ⟨w.heap.size,0,none⟩) l:=by
 refine .inr ⟨w.heap.size,0,rfl,fun j u hu=>?_⟩;rw[(Blk.new w t l.toArray).cell];simpa using hu
def intCells (l:List Int):List Value:=l.map (Value.int .i64)
def strCells (l:List (List UInt8)):List Value:=l.map fun s=>Value.string (bs s)
def boolCells (l:List Bool):List Value:=l.map Value.bool
def putCells (l:List (Int×List UInt8)):List Value:=l.flatMap fun p=>[.int .i64 p.1,.string (bs p.2)]
theorem CE (l:List Int):(intCells l).length=l.length:=by simp[intCells]
theorem strCells_length (l:List (List UInt8)):(strCells l).length=l.length:=by simp[strCells]
theorem Cm (l:List (Int×List UInt8)):(putCells l).length=l.length*2:=by
 induction l with
 |nil=>rfl
 |cons p l ih=>simp[putCells]at ih ⊢;omega
theorem GZ (l:List Int):∀u∈intCells l,u.oneCell'=true:=by
 intro u hu;obtain⟨x,_,rfl⟩:=List.mem_map.1 hu;rfl
theorem Dq (l:List (List UInt8)):∀u∈strCells l,u.oneCell'=true:=by
 intro u hu;obtain⟨x,_,rfl⟩:=List.mem_map.1 hu;rfl
theorem G0 (l:List (Int×List UInt8)):∀u∈putCells l,u.oneCell'=true:=by
 intro u hu;simp only[putCells,List.mem_flatMap,List.mem_cons,List.not_mem_nil,or_false]at hu;obtain⟨x,_,rfl|rfl⟩:=hu<;>rfl
theorem Aw {w:World}{base:Nat}{e:TypeId}{size n:Nat}{v:Value}{xs:List Value}(h:w.ownsRow base e size v n xs):∃A c,v=.slice A n c/\n<=c/\c<=maxLen/\(A=none->c=0):=by
 rcases h.2 with ⟨hv,hn⟩|⟨g,cap,cur,hv,_,_,h1,h2,_⟩
 · subst hn;exact⟨none,0,hv,Nat.le_refl _,Nat.zero_le _,fun _=>rfl⟩
 · exact⟨some ⟨g,0,none⟩,cap,hv,h1,h2,fun h=>by cases h⟩
theorem EK (l:List (Int×List UInt8))(i:Nat)(h:i<l.length):(putCells l)[i*2]? =some (.int .i64 l[i].1)/\(putCells l)[i*2+1]? =some (.string (bs l[i].2)):=by
 induction l generalizing i with
 |nil=>simp at h
 |cons p l ih=>
  cases i with
  |zero=>simp[putCells]
  |succ i=>
   have:=ih i (by simpa using h);have e:(i+1)*2=i*2+1+1:=by omega
   rw[e];simpa[putCells]using this
theorem Cells.int {w:World}{A:Option Addr}{l:List Int}(h:Cells w A (intCells l)){i:Nat}(hi:i<l.length):
 ∃b off,A=some ⟨b,off,none⟩/\∀j (hj:j<l.length),w.cell? ⟨b,off+j,none⟩=some (.int .i64 l[j]):=by
 rcases h with h|⟨b,off,e,hc⟩
 · have:=congrArg List.length h;simp[intCells]at this;subst this;simp at hi
 · exact⟨b,off,e,fun j hj=>hc j _ (by simp[intCells,hj])⟩
theorem Cells.str {w:World}{A:Option Addr}{l:List (List UInt8)}(h:Cells w A (strCells l)){i:Nat}(hi:i<l.length):
 ∃b off,A=some ⟨b,off,none⟩/\∀j (hj:j<l.length),w.cell? ⟨b,off+j,none⟩=some (.string (bs l[j])):=by
 rcases h with h|⟨b,off,e,hc⟩
 · have:=congrArg List.length h;simp[strCells]at this;subst this;simp at hi
 · exact⟨b,off,e,fun j hj=>hc j _ (by simp[strCells,hj])⟩
theorem Cells.bool {w:World}{A:Option Addr}{l:List Bool}(h:Cells w A (boolCells l)){i:Nat}(hi:i<l.length):
 ∃b off,A=some ⟨b,off,none⟩/\∀j (hj:j<l.length),w.cell? ⟨b,off+j,none⟩=some (.bool l[j]):=by
 rcases h with h|⟨b,off,e,hc⟩
 · have:=congrArg List.length h;simp[boolCells]at this;subst this;simp at hi
 · exact⟨b,off,e,fun j hj=>hc j _ (by simp[boolCells,hj])⟩
theorem Cells.put {w:World}{A:Option Addr}{l:List (Int×List UInt8)}(h:Cells w A (putCells l)){i:Nat}(hi:i<l.length):
 ∃b off,A=some ⟨b,off,none⟩/\∀j (hj:j<l.length),w.cell? ⟨b,off+j*2,none⟩=some (.int .i64 l[j].1)/\w.cell? ⟨b,off+j*2+1,none⟩=some (.string (bs l[j].2)):=by
 rcases h with h|⟨b,off,e,hc⟩
 · have:=congrArg List.length h;rw[Cm]at this;simp only[List.length_nil]at this;omega
 · exact⟨b,off,e,fun j hj=>⟨hc _ _ (EK l j hj).1,by have:=hc _ _ (EK l j hj).2;rw[show off+j*2+1=off+(j*2+1) by omega];exact this⟩⟩
theorem blk5 {w:World}{g:Nat}{t:TypeId}{a b c d e:Value}(h:Blk w g t #[a,b,c,d,e]):
 w.cell? ⟨g,0,none⟩=some a/\w.cell? ⟨g,1,none⟩=some b/\w.cell? ⟨g,2,none⟩=some c/\w.cell? ⟨g,3,none⟩=some d/\w.cell? ⟨g,4,none⟩=some e:=
 ⟨h.cell 0,h.cell 1,h.cell 2,h.cell 3,h.cell 4⟩
theorem Z5 {W:World}{g:Nat}{t:TypeId}{a0 a1 a2 a3 a4:Value}(h:Blk W g t #[a0,a1,a2,a3,a4]):Blk W g t #[a0,a1,a2,a3,a4]/\(W.cell? ⟨g,0,none⟩=some a0/\W.cell? ⟨g,1,none⟩=some a1/\W.cell? ⟨g,2,none⟩=some a2/\W.cell? ⟨g,3,none⟩=some a3/\W.cell? ⟨g,4,none⟩=some a4):=⟨h,blk5 h⟩
theorem Z5f {W:World}{g:Nat}{t:TypeId}{a0 a1 a2 a3 a4:Value}(h:Blk W g t #[a0,a1,a2,a3,a4]):Blk W g t #[a0,a1,a2,a3,a4]/\(W.cell? ⟨g,0,none⟩=some a0/\W.cell? ⟨g,1,none⟩=some a1/\W.cell? ⟨g,2,none⟩=some a2/\W.cell? ⟨g,3,none⟩=some a3/\W.cell? ⟨g,4,none⟩=some a4)/\∀j,W.frozen? ⟨g,j,none⟩=false:=⟨h,blk5 h,h.frozen⟩
theorem blk2 {w:World}{g:Nat}{t:TypeId}{a b:Value}(h:Blk w g t #[a,b]):w.cell? ⟨g,0,none⟩=some a/\w.cell? ⟨g,1,none⟩=some b:=⟨h.cell 0,h.cell 1⟩
theorem Z2 {W:World}{g:Nat}{t:TypeId}{a0 a1:Value}(h:Blk W g t #[a0,a1]):Blk W g t #[a0,a1]/\(W.cell? ⟨g,0,none⟩=some a0/\W.cell? ⟨g,1,none⟩=some a1):=⟨h,blk2 h⟩
theorem Z2f {W:World}{g:Nat}{t:TypeId}{a0 a1:Value}(h:Blk W g t #[a0,a1]):Blk W g t #[a0,a1]/\(W.cell? ⟨g,0,none⟩=some a0/\W.cell? ⟨g,1,none⟩=some a1)/\∀j,W.frozen? ⟨g,j,none⟩=false:=⟨h,blk2 h,h.frozen⟩
theorem blk1 {w:World}{g:Nat}{t:TypeId}{a:Value}(h:Blk w g t #[a]):w.cell? ⟨g,0,none⟩=some a:=h.cell 0
theorem Z1 {W:World}{g:Nat}{t:TypeId}{a0:Value}(h:Blk W g t #[a0]):Blk W g t #[a0]/\(W.cell? ⟨g,0,none⟩=some a0):=⟨h,blk1 h⟩
theorem Z1f {W:World}{g:Nat}{t:TypeId}{a0:Value}(h:Blk W g t #[a0]):Blk W g t #[a0]/\(W.cell? ⟨g,0,none⟩=some a0)/\∀j,W.frozen? ⟨g,j,none⟩=false:=⟨h,blk1 h,h.frozen⟩
theorem BZ {w w1:World}(t:TypeId)(cs:Array Value)(hb:Below (w.alloc (.cells cs t)).heap.size (w.alloc (.cells cs t)) w1):Blk w1 w.heap.size t cs:=
 (Blk.new w t cs).below hb (by simp)
theorem ext5 {w:World}{g:Nat}{t:TypeId}{a b c d e:Value}(h:Blk w g t #[a,b,c,d,e])(x:Ext w):
 x.world.cell? ⟨g,0,none⟩=some a/\x.world.cell? ⟨g,1,none⟩=some b/\x.world.cell? ⟨g,2,none⟩=some c/\x.world.cell? ⟨g,3,none⟩=some d/\x.world.cell? ⟨g,4,none⟩=some e:=
 ⟨x.cell (h.cell 0),x.cell (h.cell 1),x.cell (h.cell 2),x.cell (h.cell 3),x.cell (h.cell 4)⟩
theorem ext2 {w:World}{g:Nat}{t:TypeId}{a b:Value}(h:Blk w g t #[a,b])(x:Ext w):x.world.cell? ⟨g,0,none⟩=some a/\x.world.cell? ⟨g,1,none⟩=some b:=
 ⟨x.cell (h.cell 0),x.cell (h.cell 1)⟩
def RowB (W:World)(g:Nat)(l:List UInt8):Prop:=∀j (hj:j<l.length),W.cell? ⟨g,j,none⟩=some (.int .u8 l[j].toNat)/\W.frozen? ⟨g,j,none⟩=false
theorem RowB.kept {W W':World}{g:Nat}{l:List UInt8}(h:RowB W g l)(hk:W'.heap[g]? =W.heap[g]?):RowB W' g l:=fun j hj=>by
 obtain⟨h1,h2⟩:=h j hj;exact⟨(World.cell?_of_block (w:=W) (a:=⟨g,j,none⟩) hk).trans h1,(World.frozen?_of_block (w:=W) (a:=⟨g,j,none⟩) hk).trans h2⟩
theorem RowB.set {W:World}{g:Nat}{l:List UInt8}(h:RowB W g l)(o:Nat)(x:UInt8)(ho:o<l.length):RowB (W.setCell ⟨g,o,none⟩ (.int .u8 x.toNat)) g (l.set o x):=fun j hj=>by
 rw[List.length_set]at hj;obtain⟨h1,h2⟩:=h j hj;refine⟨?_,by rw[World.frozen?_setCell];exact h2⟩;by_cases e:j=o
 · subst e;rw[World.cell?_setCell_same' _ _ _ (by rw[h1];rfl)];simp
 · rw[World.cell?_setCell_other _ _ _ _ (by intro h;injection h with _ h;exact e h.symm)];rw[List.getElem_set_ne (Ne.symm e)];exact h1
theorem RowB.setCells {g:Nat}(t:List UInt8):∀{W:World}{l:List UInt8}(o:Nat),RowB W g l->o+t.length<=l.length->RowB (W.setCells g o (t.map fun x=>Value.int .u8 (x.toNat:Int))) g (l.take o++t++l.drop (o+t.length)):=by
 induction t with
 |nil=>intro W l o h hl;simpa[World.setCells]using h
 |cons x t ih=>
  intro W l o h hl;simp only[List.length_cons]at hl;have h1:=ih (o+1) (h.set o x (by omega)) (by rw[List.length_set];omega);have e:(l.set o x).take (o+1)++t++(l.set o x).drop (o+1+t.length)=l.take o++(x::t)++l.drop (o+(t.length+1)):=by
   rw[List.take_succ_eq_append_getElem (by rw[List.length_set];omega),List.take_set_of_le (by omega),List.drop_set_of_lt (by omega)];simp
   congr 1;omega
  rw[e]at h1;exact h1
theorem below_setCells' {B g:Nat}{a:World}(hB:B<=g):∀(vs:List Value)(o:Nat){w:World},Below B a w->Below B a (w.setCells g o vs)
 |[],_,_,h=>h
 |v::r,o,_,h=>below_setCells' hB r (o+1) (h.setCell (p:=⟨g,o,none⟩) hB v)
theorem Bx {g:Nat}{k:Nat}(hk:k≠g):∀(vs:List Value)(o:Nat)(w:World),(w.setCells g o vs).heap[k]? =w.heap[k]?
 |[],_,_=>rfl
 |v::r,o,w=>(Bx hk r (o+1) _).trans (Below.heap_setCell w ⟨g,o,none⟩ v k hk)
theorem AS {w w1:World}{t u:TypeId}{cs ds:Array Value}(hb:Below ((w.alloc (.cells cs t)).alloc (.cells ds u)).heap.size ((w.alloc (.cells cs t)).alloc (.cells ds u)) w1):Blk w1 w.heap.size t cs/\Blk w1 (w.heap.size+1) u ds:=by
 refine⟨((Blk.new w t cs).alloc _).below hb (by simp;omega),?_⟩;have:=Blk.new (w.alloc (.cells cs t)) u ds;rw[World.size_alloc]at this;exact this.below hb (by simp)
theorem Aq (w:World)(o o':Obj):Below w.heap.size w ((w.alloc o).alloc o'):=(Yz (W:=w) o).alloc (by simp) o'
theorem Ap {w:World}{g:Nat}{t:TypeId}{a b c d e:Value}(h:Blk w g t #[a,b,c,d,e])(v0 v1 v2 v3 v4:Value):
 Blk (((((w.setCell ⟨g,0,none⟩ v0).setCell ⟨g,1,none⟩ v1).setCell ⟨g,2,none⟩ v2).setCell ⟨g,3,none⟩ v3).setCell ⟨g,4,none⟩ v4) g t #[v0,v1,v2,v3,v4]:=by
 have:=((((h.set 0 v0).set 1 v1).set 2 v2).set 3 v3).set 4 v4;simpa using this
theorem Ao {B:Nat}{w0 w:World}{g:Nat}(h:Below B w0 w)(hg:B<=g)(v0 v1 v2 v3 v4:Value):
 Below B w0 (((((w.setCell ⟨g,0,none⟩ v0).setCell ⟨g,1,none⟩ v1).setCell ⟨g,2,none⟩ v2).setCell ⟨g,3,none⟩ v3).setCell ⟨g,4,none⟩ v4):=
 ((((h.setCell (p:=⟨g,0,none⟩) hg v0).setCell (p:=⟨g,1,none⟩) hg v1).setCell (p:=⟨g,2,none⟩) hg v2).setCell (p:=⟨g,3,none⟩) hg v3).setCell (p:=⟨g,4,none⟩) hg v4
theorem Au {w:World}{g k:Nat}{t:TypeId}{cs:Array Value}(h:Blk w k t cs)(hk:k≠g)(v0 v1 v2 v3 v4:Value):
 Blk (((((w.setCell ⟨g,0,none⟩ v0).setCell ⟨g,1,none⟩ v1).setCell ⟨g,2,none⟩ v2).setCell ⟨g,3,none⟩ v3).setCell ⟨g,4,none⟩ v4) k t cs:=
 ((((h.other (a:=⟨g,0,none⟩) hk v0).other (a:=⟨g,1,none⟩) hk v1).other (a:=⟨g,2,none⟩) hk v2).other (a:=⟨g,3,none⟩) hk v3).other (a:=⟨g,4,none⟩) hk v4
theorem Yk5 {U W:World}{g:Nat}{t t':TypeId}{a0 a1 a2 a3 a4 v0 v1 v2 v3 v4:Value}(x:Blk W g t #[a0,a1,a2,a3,a4])(y:Blk U g t' #[v0,v1,v2,v3,v4]):W.frozen? ⟨g,0,none⟩=false/\W.cell? ⟨g,0,none⟩=some a0/\(W.setCell ⟨g,0,none⟩ v0).frozen? ⟨g,1,none⟩=false/\(W.setCell ⟨g,0,none⟩ v0).cell? ⟨g,1,none⟩=some a1/\((W.setCell ⟨g,0,none⟩ v0).setCell ⟨g,1,none⟩ v1).frozen? ⟨g,2,none⟩=false/\((W.setCell ⟨g,0,none⟩ v0).setCell ⟨g,1,none⟩ v1).cell? ⟨g,2,none⟩=some a2/\(((W.setCell ⟨g,0,none⟩ v0).setCell ⟨g,1,none⟩ v1).setCell ⟨g,2,none⟩ v2).frozen? ⟨g,3,none⟩=false/\(((W.setCell ⟨g,0,none⟩ v0).setCell ⟨g,1,none⟩ v1).setCell ⟨g,2,none⟩ v2).cell? ⟨g,3,none⟩=some a3/\((((W.setCell ⟨g,0,none⟩ v0).setCell ⟨g,1,none⟩ v1).setCell ⟨g,2,none⟩ v2).setCell ⟨g,3,none⟩ v3).frozen? ⟨g,4,none⟩=false/\((((W.setCell ⟨g,0,none⟩ v0).setCell ⟨g,1,none⟩ v1).setCell ⟨g,2,none⟩ v2).setCell ⟨g,3,none⟩ v3).cell? ⟨g,4,none⟩=some a4:=by
 have c0:=x;have c1:=c0.set 0 v0;simp only[List.setIfInBounds_toArray,List.set_cons_zero,List.set_cons_succ]at c1;have c2:=c1.set 1 v1;simp only[List.setIfInBounds_toArray,List.set_cons_zero,List.set_cons_succ]at c2;have c3:=c2.set 2 v2;simp only[List.setIfInBounds_toArray,List.set_cons_zero,List.set_cons_succ]at c3;have c4:=c3.set 3 v3;simp only[List.setIfInBounds_toArray,List.set_cons_zero,List.set_cons_succ]at c4;exact⟨c0.frozen 0,c0.cell 0,c1.frozen 1,c1.cell 1,c2.frozen 2,c2.cell 2,c3.frozen 3,c3.cell 3,c4.frozen 4,c4.cell 4⟩
theorem Ym5 {B:Nat}{u W:World}{g:Nat}{v0 v1 v2 v3 v4:Value}{t:TypeId}{cs:Array Value}(h:Below B u W)(y:Blk (((((W.setCell ⟨g,0,none⟩ v0).setCell ⟨g,1,none⟩ v1).setCell ⟨g,2,none⟩ v2).setCell ⟨g,3,none⟩ v3).setCell ⟨g,4,none⟩ v4) g t cs)(hg:B<=g):Below B u (((((W.setCell ⟨g,0,none⟩ v0).setCell ⟨g,1,none⟩ v1).setCell ⟨g,2,none⟩ v2).setCell ⟨g,3,none⟩ v3).setCell ⟨g,4,none⟩ v4):=Ao h hg v0 v1 v2 v3 v4
theorem Yi {B:Nat}{u W:World}{g:Nat}{v0 v1 v2 v3 v4:Value}{k:Nat}{t:TypeId}{cs:Array Value}(h:Blk W k t cs)(hb:Below B u (((((W.setCell ⟨g,0,none⟩ v0).setCell ⟨g,1,none⟩ v1).setCell ⟨g,2,none⟩ v2).setCell ⟨g,3,none⟩ v3).setCell ⟨g,4,none⟩ v4))(hk:k≠g):Blk (((((W.setCell ⟨g,0,none⟩ v0).setCell ⟨g,1,none⟩ v1).setCell ⟨g,2,none⟩ v2).setCell ⟨g,3,none⟩ v3).setCell ⟨g,4,none⟩ v4) k t cs:=Au h hk v0 v1 v2 v3 v4
theorem Yj {B:Nat}{u W:World}{g:Nat}{v0 v1 v2 v3 v4:Value}{t:TypeId}{a0 a1 a2 a3 a4:Value}(h:Blk W g t #[a0,a1,a2,a3,a4])(hb:Below B u (((((W.setCell ⟨g,0,none⟩ v0).setCell ⟨g,1,none⟩ v1).setCell ⟨g,2,none⟩ v2).setCell ⟨g,3,none⟩ v3).setCell ⟨g,4,none⟩ v4)):Blk (((((W.setCell ⟨g,0,none⟩ v0).setCell ⟨g,1,none⟩ v1).setCell ⟨g,2,none⟩ v2).setCell ⟨g,3,none⟩ v3).setCell ⟨g,4,none⟩ v4) g t #[v0,v1,v2,v3,v4]:=Ap h v0 v1 v2 v3 v4
structure Dk where
 data:List UInt8
 cache:List (Int×List UInt8)
 fuse:Int
 off:Bool
 bad:List Int
structure Pl where
 a:Option Addr
 c:Nat
abbrev dval (D:Dk)(p q:Pl):Value:=
 .agg #[.string (bs D.data),.slice p.a D.cache.length p.c,.int .i64 D.fuse,.bool D.off,.slice q.a D.bad.length q.c]
structure IsDk (w:World) (D:Dk) (p q:Pl):Prop where
 cache:Cells w p.a (putCells D.cache)
 bad:Cells w q.a (intCells D.bad)
 pn:p.a=none->p.c=0
 qn:q.a=none->q.c=0
 pc:D.cache.length<=p.c
 qc:D.bad.length<=q.c
 pm:p.c<=maxLen
 qm:q.c<=maxLen
 cl:D.cache.length<=1099511627776
 bl:D.bad.length<=17592186044416
 data:D.data.length<=140737488355328
 fuse: -9223372036854775808<=D.fuse/\D.fuse<=9223372036854775807
 strs:∀x∈D.cache,x.2.length<=9223372036854775807
 ats:∀x∈D.cache,-9223372036854775808<=x.1/\x.1<=9223372036854775807
 bads:∀x∈D.bad,-9223372036854775808<=x/\x<=9223372036854775807
def RetDk (X:Dk×Int)(e:Ending)(w:World):Prop:=∃p q,e=.returned (.tuple #[dval X.1 p q,.int .i64 X.2])/\IsDk w X.1 p q
theorem IsDk.below {w w':World}{D:Dk}{p q:Pl}(h:IsDk w D p q)(hb:Below w.heap.size w w'):IsDk w' D p q:=
 {h with cache:=h.cache.below hb,bad:=h.bad.below hb}
theorem ap5 {α:Value->Value->Value->Value->Value->Prop}(f:∀a b c d e,α a b c d e)(D:Dk)(a:Option Addr)(c:Nat)(b:Option Addr)(e:Nat):α (.string (bs D.data)) (.slice a D.cache.length c) (.int .i64 D.fuse) (.bool D.off) (.slice b D.bad.length e):=f _ _ _ _ _
theorem apc5 {α:Array Value->Prop}(f:∀A,α A)(D:Dk)(a:Option Addr)(c:Nat)(b:Option Addr)(e:Nat):α #[.string (bs D.data),.slice a D.cache.length c,.int .i64 D.fuse,.bool D.off,.slice b D.bad.length e]:=f _
theorem IsDk.setOff {w:World}{D:Dk}{p q:Pl}(h:IsDk w D p q)(b:Bool):IsDk w {D with off:=b} p q:={h with cache:=h.cache}
theorem IsDk.setFuse {w:World}{D:Dk}{p q:Pl}(h:IsDk w D p q){n:Int}(hn: -9223372036854775808<=n/\n<=9223372036854775807):IsDk w {D with fuse:=n} p q:={h with cache:=h.cache,fuse:=hn}
theorem IsDk.flushed {w:World}{D:Dk}{p q:Pl}(h:IsDk w D p q){L:List UInt8}(hL:L.length<=140737488355328):IsDk w {D with data:=L,cache:=[]} ⟨none,0⟩ q:=
 {h with cache:=.inl rfl,pn:=fun _=>rfl,pc:=Nat.zero_le _,pm:=Nat.zero_le _,cl:=Nat.zero_le _,data:=hL,strs:=fun _ hx=>(by cases hx),ats:=fun _ hx=>(by cases hx)}
theorem GA (w:World):IsDk w ⟨[],[],0,false,[]⟩ ⟨none,0⟩ ⟨none,0⟩:=
 {cache:=.inl rfl,bad:=.inl rfl,pn:=fun _=>rfl,qn:=fun _=>rfl,pc:=Nat.le_refl _,qc:=Nat.le_refl _,pm:=Nat.zero_le _,qm:=Nat.zero_le _,cl:=Nat.zero_le _,bl:=Nat.zero_le _,data:=Nat.zero_le _,fuse:=by simp,strs:=fun _ hx=>(by cases hx),ats:=fun _ hx=>(by cases hx),bads:=fun _ hx=>(by cases hx)}
theorem LU (w:World)(l:List UInt8)(hl:l.length<=140737488355328):IsDk w ⟨l,[],-1,false,[]⟩ ⟨none,0⟩ ⟨none,0⟩:=
 {cache:=.inl rfl,bad:=.inl rfl,pn:=fun _=>rfl,qn:=fun _=>rfl,pc:=Nat.le_refl _,qc:=Nat.le_refl _,pm:=Nat.zero_le _,qm:=Nat.zero_le _,cl:=Nat.zero_le _,bl:=Nat.zero_le _,data:=hl,fuse:=by simp,strs:=fun _ hx=>(by cases hx),ats:=fun _ hx=>(by cases hx),bads:=fun _ hx=>(by cases hx)}
end
section
def be:Nat->Nat->List UInt8
 |0,_=>[]
 |k+1,n=>UInt8.ofNat (n/256^k)::be k n
theorem Ar (k n:Nat):(be k n).length=k:=by induction k<;>simp_all [be]
theorem DW (k:Nat):∀n:Nat,be k n=be k (n%256^k):=by
 have h:∀j k n:Nat,j<=k->be j n=be j (n%256^k):=by
  intro j
  induction j with
  |zero=>intros;rfl
  |succ j ih=>
   intro k n hj;have a0:=ih k n (by omega);simp only[be];rw[<-a0];refine congrArg (· ::_) ?_;apply UInt8.toNat_inj.1
   simp only[UInt8.toNat_ofNat'];obtain⟨d,rfl⟩:∃d,k=j+(d+1):=⟨k-j-1,by omega⟩;show n/256^j%256=n%256^(j+(d+1))/256^j%256;rw[Nat.pow_add,Nat.mod_mul_right_div_self,Nat.pow_succ 256 d,Nat.mod_mul_left_mod]
 exact fun n=>h k k n (Nat.le_refl _)
def putStep (len:Nat)(s:List UInt8×Nat)(x:Fin len×UInt8):List UInt8×Nat:=(s.1.set x.1.val (UInt8.ofNat s.2),s.2/256)
def putSt (len n:Nat)(pre:List (Fin len×UInt8)):List UInt8×Nat:=pre.foldl (putStep len) (List.replicate len 0,n)
theorem EL (len n:Nat)(pre:List (Fin len×UInt8))(x:Fin len×UInt8):putSt len n (pre++[x])=putStep len (putSt len n pre) x:=by simp[putSt]
theorem Dx (len n:Nat)(pre:List (Fin len×UInt8)):(putSt len n pre).1.length=len:=by
 suffices h:∀(pre:List (Fin len×UInt8))(s:List UInt8×Nat),s.1.length=len->(pre.foldl (putStep len) s).1.length=len from h pre _ (by simp)
 intro pre
 induction pre with
 |nil=>exact fun s h=>h
 |cons y pre ih=>exact fun s h=>ih _ (by simpa[putStep]using h)
theorem Nn (len n:Nat)(k:Nat):∀pre:List (Fin len×UInt8),pre.map (fun y=>y.1.val)=((List.range len).reverse).take k->k<=len->putSt len n pre=(List.replicate (len-k) 0++be k n,n/256^k):=by
 induction k with
 |zero=>
  intro pre h _;obtain rfl:pre=[]:=by simpa using h
  simp[putSt,be]
 |succ k ih=>
  intro pre h hk;have ht:((List.range len).reverse).take (k+1)=((List.range len).reverse).take k++[len-1-k]:=by
   rw[List.take_succ_eq_append_getElem (by simp;omega)];simp
  rw[ht]at h;obtain⟨pre',l2,rfl,h1,h2⟩:=List.map_eq_append_iff.1 h;obtain⟨y,rfl,hy⟩:∃y,l2=[y]/\y.1.val=len-1-k:=by
   cases l2 with
   |nil=>simp at h2
   |cons y l2=>cases l2 with
    |nil=>exact⟨y,rfl,by simpa using h2⟩
    |cons z l2=>simp at h2
  rw[EL,ih pre' h1 (by omega)];simp only[putStep,hy];refine Prod.ext ?_ ?_
  · have e:len-k=(len-(k+1))+1:=by omega
    rw[e,List.replicate_succ',List.append_assoc,List.set_append_right _ _ (by simp;omega)];have e2:len-1-k-(List.replicate (len-(k+1)) (0:UInt8)).length=0:=by rw[List.length_replicate];omega
    rw[e2];simp[be]
  · show n/256^k/256=n/256^(k+1);rw[Nat.div_div_eq_div_mul,Nat.pow_succ]
theorem Nm (len n:Nat)(ys:List (Fin len×UInt8))(h:ys.map (fun y=>y.1.val)=(List.range len).reverse):(putSt len n ys).1=be len n:=by
 rw[Nn len n len ys (by rw[h,List.take_of_length_le (by simp)]) (Nat.le_refl _)];simp
def un (l:List UInt8):Nat:=l.foldl (fun n c=>n*256+c.toNat) 0
theorem QM (l:List UInt8)(c:UInt8):un (l++[c])=un l*256+c.toNat:=by simp[un]
theorem By (l:List UInt8):un l<256^l.length:=by
 suffices h:∀(l:List UInt8)(a:Nat),l.foldl (fun n c=>n*256+c.toNat) a<(a+1)*256^l.length by
  have:=h l 0;rw[Nat.zero_add,Nat.one_mul]at this;exact this
 intro l
 induction l with
 |nil=>intro a;simp
 |cons c l ih=>
  intro a;simp only[List.foldl_cons,List.length_cons];refine Nat.lt_of_lt_of_le (ih _) ?_;rw[Nat.pow_succ,Nat.mul_comm (256^l.length) 256,<-Nat.mul_assoc];refine Nat.mul_le_mul_right _ ?_;have:=c.toNat_lt;omega
def over (s:List UInt8)(k:Nat)(t:List UInt8):List UInt8:=s.take k++t++s.drop (k+t.length)
theorem Ds (s t:List UInt8)(k:Nat)(h:k+t.length<=s.length):(over s k t).length=s.length:=by
 simp[over];omega
theorem Dr (s t:List UInt8)(k j:Nat)(h:k+t.length<=s.length):(over s k t)[j]? =if k<=j/\j<k+t.length then t[j-k]? else s[j]? :=by
 unfold over;by_cases h1:j<k
 · rw[if_neg (by omega),List.append_assoc,List.getElem?_append_left (by simp;omega),List.getElem?_take_of_lt h1]
 · by_cases h2:j<k+t.length
   · rw[if_pos ⟨by omega,h2⟩,List.getElem?_append_left (by simp;omega),List.getElem?_append_right (by simp;omega)];simp;congr 1;omega
   · rw[if_neg (by omega),List.getElem?_append_right (by simp;omega),List.getElem?_drop]
     congr 1;simp;omega
def okByte (b:UInt8):Bool:=decide (33<=b.toNat)&&decide (b.toNat<=126)
def nameOk (l:List UInt8):Bool:=!l.isEmpty&&decide (l.length<=8)&&l.all okByte
def badRune (c:Nat):Bool:=decide (c<33)||decide (126<c)
theorem KI (s:ByteArray)(i:Nat)(h:(s.get! i).toNat<128):Utf8.decode s i=((s.get! i).toNat,1):=by
 simp[Utf8.decode,h]
theorem KH (s:ByteArray)(i:Nat)(h:¬(s.get! i).toNat<128):128<=(Utf8.decode s i).1:=by
 simp only[Utf8.decode,Nat.add_zero,h,if_false,Utf8.runeError,Bool.and_eq_true]
 repeat' split
 all_goals simp only[ge_iff_le,decide_eq_true_eq]at*
 all_goals omega
theorem En (l:List UInt8)(i:Nat)(h:i<l.length):(bs l).get! i=l[i]:=by
 simp[bs,ByteArray.get!,h]
theorem LS (l:List UInt8):∀f pos:Nat,l.length<=pos+f->(Lib.idxFuncFrom badRune true (bs l) f pos<0↔(l.drop pos).all okByte=true):=by
 intro f
 induction f with
 |zero=>intro pos h;rw[List.drop_of_length_le (by omega)];simp[Lib.idxFuncFrom]
 |succ f ih=>
  intro pos h;unfold Lib.idxFuncFrom;by_cases hp:pos<l.length
  · rw[if_pos (by rw[Ab];exact hp),List.drop_eq_getElem_cons hp];simp only[List.all_cons,Bool.and_eq_true];by_cases hb:l[pos].toNat<128
    · rw[KI _ _ (by rw[En l pos hp];exact hb),En l pos hp];by_cases hk:badRune l[pos].toNat=true
      · rw[if_pos hk];refine⟨fun hh=>by omega,fun hh=>?_⟩;have:=hh.1;simp[okByte,badRune]at this hk;omega
      · rw[if_neg hk,ih (pos+1) (by omega)];have a0:okByte l[pos]=true:=by
         simp[badRune]at hk;simp[okByte];omega
        simp[a0]
    · have hd:=KH (bs l) pos (by rw[En l pos hp];exact hb);have hk:badRune (Utf8.decode (bs l) pos).1=true:=by simp[badRune];omega
      rw[if_pos hk];refine⟨fun hh=>by omega,fun hh=>?_⟩;have:=hh.1;simp[okByte]at this;omega
  · rw[if_neg (by rw[Ab];exact hp),List.drop_of_length_le (by omega)];simp
theorem LR (l:List UInt8):Lib.idxFunc badRune true (bs l)<0↔l.all okByte=true:=by
 have:=LS l (bs l).size 0 (by rw[Ab];omega);rw[List.drop_zero]at this;exact this
def crc1 (c:Nat):Nat:=(c >>> 1) ^^^ ((c &&& 1)*2197175160)
def crcN:Nat->Nat->Nat
 |0,c=>c
 |n+1,c=>crcN n (crc1 c)
def crcB (c:Nat)(b:UInt8):Nat:=crcN 8 (c ^^^ b.toNat)
def crcL (c:Nat)(l:List UInt8):Nat:=l.foldl crcB c
def crcMore (s:Nat)(l:List UInt8):Nat:=4294967295-crcL (4294967295-s) l
def crcOf (l:List UInt8):Nat:=crcMore 0 l
theorem J5 (x y:Nat):crc1 (x ^^^ y)=crc1 x ^^^ crc1 y:=by
 unfold crc1;rw[Nat.shiftRight_xor_distrib,Nat.and_xor_distrib_right];have h:((x &&& 1) ^^^ (y &&& 1))*2197175160=((x &&& 1)*2197175160) ^^^ ((y &&& 1)*2197175160):=by
  rw[Nat.and_one_is_mod,Nat.and_one_is_mod]
  rcases Nat.mod_two_eq_zero_or_one x with h|h<;>rcases Nat.mod_two_eq_zero_or_one y with h'|h'<;>rw[h,h']<;>rfl
 rw[h]
 ac_rfl
theorem FT (n:Nat):∀x y,crcN n (x ^^^ y)=crcN n x ^^^ crcN n y:=by
 induction n with
 |zero=>intro x y;rfl
 |succ n ih=>intro x y;rw[crcN,crcN,crcN,J5,ih]
theorem J4 (k:Nat):crc1 (2*k)=k:=by
 unfold crc1;rw[Nat.and_one_is_mod,Nat.shiftRight_eq_div_pow];simp
theorem Kd (n:Nat):∀k,crcN n (2^n*k)=k:=by
 induction n with
 |zero=>intro k;simp[crcN]
 |succ n ih=>intro k;rw[crcN,Nat.pow_succ,show 2^n*2*k=2*(2^n*k) by rw[Nat.mul_comm (2^n) 2,Nat.mul_assoc],J4,ih]
theorem PH (c:Nat):c=(c%256) ^^^ (2^8*(c >>> 8)):=by
 apply Nat.eq_of_testBit_eq
 intro i;rw[Nat.testBit_xor,Nat.testBit_two_pow_mul,show(256:Nat)=2^8 by rfl,Nat.testBit_mod_two_pow];by_cases h:i<8
 · have h8:¬8<=i:=by omega
   simp[h,h8]
 · have h8:8<=i:=by omega
   simp only[h,decide_false,Bool.false_and,h8,decide_true,Bool.true_and,Bool.false_xor];rw[Nat.testBit_shiftRight]
   congr 1;omega
theorem J9 (c:Nat)(b:UInt8):crcB c b=crcN 8 ((c%256) ^^^ b.toNat) ^^^ (c >>> 8):=by
 unfold crcB;have e:c ^^^ b.toNat=((c%256) ^^^ b.toNat) ^^^ (2^8*(c >>> 8)):=by
  conv=>lhs;rw[PH c]
  ac_rfl
 rw[e,FT,Kd]
theorem FM {c:Nat}(h:c<4294967296):crc1 c<4294967296:=by
 unfold crc1;rw[Nat.and_one_is_mod];have h1:c >>> 1<2^32:=by rw[Nat.shiftRight_eq_div_pow];omega
 have h2:c%2*2197175160<2^32:=by rcases Nat.mod_two_eq_zero_or_one c with h|h<;>rw[h]<;>decide
 exact Nat.xor_lt_two_pow h1 h2
theorem C4 (n:Nat):∀{c:Nat},c<4294967296->crcN n c<4294967296:=by
 induction n with
 |zero=>intro c h;exact h
 |succ n ih=>intro c h;exact ih (FM h)
theorem CC {c:Nat}(h:c<4294967296)(b:UInt8):crcB c b<4294967296:=by
 refine C4 8 (Nat.xor_lt_two_pow (n:=32) h ?_);have:=b.toNat_lt;omega
theorem BC:∀(l:List UInt8){c:Nat},c<4294967296->crcL c l<4294967296:=by
 intro l
 induction l with
 |nil=>intro c h;exact h
 |cons a l ih=>intro c h;exact ih (CC h a)
theorem FO (c:Nat)(l:List UInt8)(b:UInt8):crcL c (l++[b])=crcB (crcL c l) b:=by simp[crcL]
theorem Ed (c:Nat)(l m:List UInt8):crcL c (l++m)=crcL (crcL c l) m:=by simp[crcL]
theorem A6 (s:Nat)(l:List UInt8):crcMore s l<4294967296:=by unfold crcMore;omega
theorem C3 {s:Nat}(h:s<4294967296)(l m:List UInt8):crcMore (crcMore s l) m=crcMore s (l++m):=by
 unfold crcMore;rw[Ed];have:=BC l (c:=4294967295-s) (by omega)
 congr 2
 omega
theorem un2 (a b:UInt8):un [a,b]=a.toNat*256+b.toNat:=by simp[un]
theorem be2 (n:Nat):be 2 n=[UInt8.ofNat (n/256),UInt8.ofNat n]:=by simp[be]
theorem DQ {n:Nat}(h:n<65536):un (be 2 n)=n:=by
 rw[be2,un2,UInt8.toNat_ofNat',UInt8.toNat_ofNat'];omega
theorem J6 {x:Nat}(hx:x<4294967296)(h:crc1 x=0):x=0:=by
 unfold crc1 at h;rw[Nat.and_one_is_mod,Nat.shiftRight_eq_div_pow]at h;have h':x/2^1=x%2*2197175160:=by
  have:=congrArg (· ^^^ (x%2*2197175160)) h;simpa[Nat.xor_assoc]using this
 omega
theorem Ke (n:Nat):∀{x:Nat},x<4294967296->crcN n x=0->x=0:=by
 induction n with
 |zero=>intro x _ h;exact h
 |succ n ih=>intro x hx h;exact J6 hx (ih (FM hx) h)
theorem xor_zero {x y:Nat}(h:x ^^^ y=0):x=y:=by
 have:=congrArg (· ^^^ y) h;simpa[Nat.xor_assoc]using this
theorem FQ {n x y:Nat}(hx:x<4294967296)(hy:y<4294967296)(h:crcN n x=crcN n y):x=y:=by
 refine xor_zero (Ke n (Nat.xor_lt_two_pow (n:=32) hx hy) ?_);rw[FT,h,Nat.xor_self]
theorem CZ {c:Nat}(hc:c<4294967296)(b:UInt8):c ^^^ b.toNat<4294967296:=
 Nat.xor_lt_two_pow (n:=32) hc (by have:=b.toNat_lt;omega)
theorem J7 {c d:Nat}(hc:c<4294967296)(hd:d<4294967296)(b:UInt8)(h:crcB c b=crcB d b):c=d:=by
 have h:=FQ (CZ hc b) (CZ hd b) h;have:=congrArg (· ^^^ b.toNat) h;simpa[Nat.xor_assoc]using this
theorem J8 {c:Nat}(hc:c<4294967296)(a b:UInt8)(h:crcB c a=crcB c b):a=b:=by
 have h:=FQ (CZ hc a) (CZ hc b) h;have:=congrArg (c ^^^ ·) h;simp only[<-Nat.xor_assoc,Nat.xor_self,Nat.zero_xor]at this;exact UInt8.toNat_inj.1 this
theorem Ka:∀(l:List UInt8){c d:Nat},c<4294967296->d<4294967296->crcL c l=crcL d l->c=d:=by
 intro l
 induction l with
 |nil=>intro c d _ _ h;exact h
 |cons a l ih=>intro c d hc hd h;exact J7 hc hd a (ih (CC hc a) (CC hd a) h)
theorem Kb (l:List UInt8)(i:Nat)(b:UInt8)(hi:i<l.length){c:Nat}(hc:c<4294967296)(h:crcL c l=crcL c (l.set i b)):l[i]=b:=by
 have e1:l=l.take i++l[i]::l.drop (i+1):=by rw[<-List.drop_eq_getElem_cons hi,List.take_append_drop]
 have e2:l.set i b=l.take i++b::l.drop (i+1):=by rw[List.set_eq_take_append_cons_drop,if_pos hi]
 rw[e2]at h
 conv at h=>lhs;rw[e1]
 rw[Ed,Ed]at h;have a0:=BC (l.take i) hc;exact J8 a0 _ _ (Ka (l.drop (i+1)) (CC a0 _) (CC a0 _) h)
theorem Fs {a b:Nat}(ha:a<4294967296)(hb:b<4294967296)(h:be 4 a=be 4 b):a=b:=by
 simp only[be,List.cons.injEq,and_true]at h;obtain⟨h1,h2,h3,h4⟩:=h;have g:∀{x y:Nat},UInt8.ofNat x=UInt8.ofNat y->x%256=y%256:=fun {x y} h=>by
  have:=congrArg UInt8.toNat h;rwa [UInt8.toNat_ofNat',UInt8.toNat_ofNat']at this
 have g1:=g h1;have g2:=g h2;have g3:=g h3;have g4:=g h4
 omega
theorem FU {l:List UInt8}{i:Nat}{b:UInt8}(hi:i<l.length)(h:crcOf l=crcOf (l.set i b)):l[i]=b:=by
 refine Kb l i b hi (c:=4294967295) (by omega) ?_;unfold crcOf crcMore at h;have h1:=BC l (c:=4294967295-0) (by omega);have h2:=BC (l.set i b) (c:=4294967295-0) (by omega);rw[Nat.sub_zero]at h h1 h2;omega
def incr:List Int->Bool
 |a::b::l=>decide (a<b)&&incr (b::l)
 |_=>true
theorem Gy (l:List Int):incr l=true↔∀i (h:i+1<l.length),l[i]<l[i+1]:=by
 induction l with
 |nil=>simp[incr]
 |cons a l ih=>
  cases l with
  |nil=>simp[incr]
  |cons b l=>
   simp only[incr,Bool.and_eq_true,decide_eq_true_eq,ih];constructor
   · rintro⟨h1,h2⟩ i hi;cases i with
     |zero=>exact h1
     |succ i=>exact h2 i (by simpa using hi)
   · intro h;exact⟨h 0 (by simp),fun i hi=>h (i+1) (by simpa using hi)⟩
namespace Dk
def sz (D:Dk):Nat:=D.data.length/64
def there (D:Dk)(k:Int):Bool:=decide (0<=k)&&decide (k<D.sz)
def putOk (D:Dk)(x:Int×List UInt8):Bool:=D.there x.1&&decide (x.2.length=64)
def fit (D:Dk):Bool:=decide (1<=D.sz)&&(decide (D.sz<=1024)&&(decide (D.data.length%64=0)&&(decide (D.cache.length<=4096)&&(D.cache.all D.putOk&&(D.bad.all D.there&&incr D.bad)))))
theorem fit_no_put {D:Dk}{i:Nat}(hi:i<D.cache.length)(h:D.putOk D.cache[i]=false):D.fit=false:=by
 have:D.cache.all D.putOk=false:=by
  rw[List.all_eq_false];exact⟨D.cache[i],List.getElem_mem hi,by simp[h]⟩
 simp[fit,this]
theorem fit_no_bad {D:Dk}{i:Nat}(hi:i<D.bad.length)(h:D.there D.bad[i]=false):D.fit=false:=by
 have:D.bad.all D.there=false:=by
  rw[List.all_eq_false];exact⟨D.bad[i],List.getElem_mem hi,by simp[h]⟩
 simp[fit,this]
theorem fit_no_incr {D:Dk}{i:Nat}(hi:i<D.bad.length)(h0:0<i)(h:D.bad[i]<=D.bad[i-1]):D.fit=false:=by
 have:incr D.bad=false:=by
  rw[<-Bool.not_eq_true,Gy];intro hh;have:=hh (i-1) (by omega);simp only[show i-1+1=i by omega]at this;omega
 simp[fit,this]
theorem fit_yes {D:Dk}(h1:1<=D.sz)(h2:D.sz<=1024)(h3:D.data.length%64=0)(h4:D.cache.length<=4096)(h5:∀i (h:i<D.cache.length),D.putOk D.cache[i]=true)
 (h6:∀i (h:i<D.bad.length),D.there D.bad[i]=true) (h7:∀i (h:i<D.bad.length),0<i->D.bad[i-1]<D.bad[i]):D.fit=true:=by
 have a5:D.cache.all D.putOk=true:=by
  rw[List.all_eq_true];intro x hx;obtain⟨i,hi,rfl⟩:=List.getElem_of_mem hx;exact h5 i hi
 have a6:D.bad.all D.there=true:=by
  rw[List.all_eq_true];intro x hx;obtain⟨i,hi,rfl⟩:=List.getElem_of_mem hx;exact h6 i hi
 have a7:incr D.bad=true:=(Gy _).2 fun i hi=>by have:=h7 (i+1) hi (by omega);simpa using this
 simp only[fit,a5,a6,a7,decide_eq_true_eq,Bool.and_eq_true,and_true];exact⟨h1,h2,h3,h4⟩
def same (D E:Dk):Bool:=decide (D.data=E.data/\D.cache=E.cache/\D.fuse=E.fuse/\D.off=E.off/\D.bad=E.bad)
theorem same_self (D:Dk):D.same D=true:=by simp[same]
theorem same_no {D E:Dk}(h:D.data≠E.data\/D.cache.length≠E.cache.length\/D.fuse≠E.fuse\/D.off≠E.off\/D.bad.length≠E.bad.length):D.same E=false:=by
 rw[same,decide_eq_false_iff_not];rintro⟨h1,h2,h3,h4,h5⟩;rw[h1,h2,h3,h4,h5]at h;simp at h
theorem same_no_cache {D E:Dk}(i:Nat)(h1:i<D.cache.length)(h2:i<E.cache.length)(h:D.cache[i]≠E.cache[i]):D.same E=false:=by
 rw[same,decide_eq_false_iff_not];rintro⟨_,e,_⟩;exact h (by simp only[e])
theorem same_no_bad {D E:Dk}(i:Nat)(h1:i<D.bad.length)(h2:i<E.bad.length)(h:D.bad[i]≠E.bad[i]):D.same E=false:=by
 rw[same,decide_eq_false_iff_not];rintro⟨_,_,_,_,e⟩;exact h (by simp only[e])
theorem same_yes {D E:Dk}(h1:D.data=E.data)(h2:D.cache.length=E.cache.length)(h3:D.fuse=E.fuse)(h4:D.off=E.off)(h5:D.bad.length=E.bad.length)
 (h6:∀i (a:i<D.cache.length)(b:i<E.cache.length),D.cache[i]=E.cache[i]) (h7:∀i (a:i<D.bad.length)(b:i<E.bad.length),D.bad[i]=E.bad[i]):D.same E=true:=by
 rw[same,decide_eq_true_eq];exact⟨h1,List.ext_getElem h2 (fun i a b=>h6 i a b),h3,h4,List.ext_getElem h5 (fun i a b=>h7 i a b)⟩
def seesIn:List (Int×List UInt8)->Int->Option (List UInt8)
 |[],_=>none
 |x::l,k=>match seesIn l k with
  |some s=>some s
  |none=>if x.1=k then some x.2 else none
def sector (D:Dk)(k:Nat):List UInt8:=(D.data.take ((k+1)*64)).drop (k*64)
def sees (D:Dk)(k:Int):List UInt8:=(seesIn D.cache k).getD (D.sector k.toNat)
def lastN (D:Dk)(keep:Nat->Bool):Nat->List UInt8
 |0=>D.data
 |n+1=>match D.cache[n]? with
  |some x=>if keep n then over (D.lastN keep n) (x.1.toNat*64) x.2 else D.lastN keep n
  |none=>D.lastN keep n
def last (D:Dk)(keep:Nat->Bool):List UInt8:=D.lastN keep D.cache.length
theorem lastN_succ (D:Dk)(keep:Nat->Bool)(n:Nat)(h:n<D.cache.length):D.lastN keep (n+1)=if keep n then over (D.lastN keep n) (D.cache[n].1.toNat*64) D.cache[n].2 else D.lastN keep n:=by
 rw[lastN,List.getElem?_eq_getElem h]
theorem fit_parts {D:Dk}(h:D.fit=true):1<=D.sz/\D.sz<=1024/\D.data.length=D.sz*64/\D.cache.length<=4096/\(∀i (h:i<D.cache.length),0<=D.cache[i].1/\D.cache[i].1<D.sz/\D.cache[i].2.length=64)/\
 (∀i (h:i<D.bad.length),0<=D.bad[i]/\D.bad[i]<D.sz)/\incr D.bad=true:=by
 simp only[fit,Bool.and_eq_true,decide_eq_true_eq,List.all_eq_true,putOk,there]at h;obtain⟨h1,h2,h3,h4,h5,h6,h7⟩:=h;refine⟨h1,h2,?_,h4,fun i hi=>?_,fun i hi=>?_,h7⟩
 · have:=Nat.div_add_mod D.data.length 64;rw[h3]at this;show _=D.data.length/64*64;omega
 · have:=h5 _ (List.getElem_mem hi);exact⟨this.1.1,this.1.2,this.2⟩
 · exact h6 _ (List.getElem_mem hi)
theorem lastN_length {D:Dk}(h:D.fit=true)(keep:Nat->Bool)(n:Nat):(D.lastN keep n).length=D.sz*64:=by
 obtain⟨h1,h2,h3,h4,h5,_⟩:=fit_parts h
 induction n with
 |zero=>exact h3
 |succ n ih=>
  rw[lastN]
  split
  · rename_i x hx
    obtain⟨hn,rfl⟩:=List.getElem?_eq_some_iff.1 hx;obtain⟨a,b,c⟩:=h5 n hn
    split
    · rw[Ds _ _ _ (by rw[ih,c];omega),ih]
    · exact ih
  · exact ih
theorem seesIn_none {l:List (Int×List UInt8)}{k:Int}(h:∀j (hj:j<l.length),l[j].1≠k):seesIn l k=none:=by
 induction l with
 |nil=>rfl
 |cons x l ih=>
  have h1:=ih (fun j hj=>h (j+1) (by simpa using hj));have h0:=h 0 (by simp);simp only[List.getElem_cons_zero]at h0;simp[seesIn,h1,h0]
theorem seesIn_some {l:List (Int×List UInt8)}{k:Int}{i:Nat}(hi:i<l.length)(he:l[i].1=k)(h:∀j (hj:j<l.length),i<j->l[j].1≠k):seesIn l k=some l[i].2:=by
 induction l generalizing i with
 |nil=>simp at hi
 |cons x l ih=>
  cases i with
  |zero=>
   have h1:=seesIn_none (l:=l) (k:=k) (fun j hj=>by have:=h (j+1) (by simpa using hj) (by omega);simpa using this);simp only[List.getElem_cons_zero]at he ⊢;simp[seesIn,h1,he]
  |succ i=>
   have h1:=ih (i:=i) (by simpa using hi) (by simpa using he) (fun j hj hij=>by have:=h (j+1) (by simpa using hj) (by omega);simpa using this);simp[seesIn,h1]
def burnt (D:Dk):Dk:={D with fuse:=if 0<D.fuse then D.fuse-1 else D.fuse}
def write (D:Dk)(k:Int)(s:List UInt8):Dk×Int:=
 if D.off=true then(D,12)else if D.there k=false then(D,10)else if s.length≠64 then(D,11)else if D.fuse=0 then({D with off:=true},12)
 else if k∈D.bad then(D,13)else if 4096<=D.cache.length then(D,16)else(({D with cache:=D.cache++[(k,s)]}:Dk).burnt,0)
def read (D:Dk)(k:Int):List UInt8×Int:=
 if D.off=true then([],12)else if D.there k=false then([],10)else if k∈D.bad then([],13)else(D.sees k,0)
def flush (D:Dk):Dk×Int:=
 if D.off=true then(D,12)else if D.fuse=0 then({D with off:=true},12)else(({D with data:=D.last fun _=>true,cache:=[]}:Dk).burnt,0)
def fresh (n:Int):Dk×Int:=if n<1\/1024<n then(⟨[],[],0,false,[]⟩,11)else(⟨List.replicate (64*n.toNat) 0,[],-1,false,[]⟩,0)
end Dk
end
section
namespace Dk
def secOf (l:List UInt8)(k:Nat):List UInt8:=(l.take ((k+1)*64)).drop (k*64)
theorem sector_eq (D:Dk)(k:Nat):D.sector k=secOf D.data k:=rfl
theorem Ir {l:List UInt8}{k:Nat}(h:(k+1)*64<=l.length){i:Nat}(hi:i<64):(secOf l k)[i]? =l[k*64+i]? :=by
 rw[secOf,List.getElem?_drop,List.getElem?_take,if_pos (by omega)]
theorem Is {l:List UInt8}{k:Nat}(h:(k+1)*64<=l.length):(secOf l k).length=64:=by
 rw[secOf,List.length_drop,List.length_take];omega
theorem Iq {l:List UInt8}{k:Nat}{t:List UInt8}(h:(k+1)*64<=l.length)(ht:t.length=64)(he:∀i,i<64->l[k*64+i]? =t[i]?):secOf l k=t:=by
 apply List.ext_getElem?
 intro i;by_cases hi:i<64
 · rw[Ir h hi,he i hi]
 · rw[List.getElem?_eq_none (by rw[Is h];omega),List.getElem?_eq_none (by omega)]
theorem Pq {l:List UInt8}{k:Nat}{t:List UInt8}(h:(k+1)*64<=l.length)(ht:t.length=64):secOf (over l (k*64) t) k=t:=by
 have hl:(over l (k*64) t).length=l.length:=Ds _ _ _ (by omega);refine Iq (by omega) ht fun i hi=>?_
 rw[Dr _ _ _ _ (by omega),if_pos (by omega)]
 congr 1;omega
theorem Pp {l:List UInt8}{j k:Nat}{t:List UInt8}(h:(k+1)*64<=l.length)(hj:(j+1)*64<=l.length)(ht:t.length=64)(hne:j≠k):secOf (over l (j*64) t) k=secOf l k:=by
 have hl:(over l (j*64) t).length=l.length:=Ds _ _ _ (by omega);refine Iq (by omega) (Is h) fun i hi=>?_
 rw[Dr _ _ _ _ (by omega),if_neg (by omega),Ir h hi]
theorem Pv (l:List (Int×List UInt8))(x:Int×List UInt8)(k:Int):seesIn (l++[x]) k=if x.1=k then some x.2 else seesIn l k:=by
 induction l with
 |nil=>simp[seesIn]
 |cons y l ih=>
  simp only[List.cons_append,seesIn,ih]
  split<;>rename_i h
  · split at h
    · rename_i h1;rw[if_pos h1,<-h]
    · rename_i h1;rw[if_neg h1,h]
  · split at h
    · cases h
    · rename_i h1;rw[if_neg h1,h]
theorem Mi {D:Dk}(hf:D.fit=true){k:Nat}(hk:k<D.sz)(n:Nat)(hn:n<=D.cache.length):secOf (D.lastN (fun _=>true) n) k=(seesIn (D.cache.take n) k).getD (D.sector k):=by
 obtain⟨_,_,hl,_,hc,_⟩:=fit_parts hf
 induction n with
 |zero=>simp[lastN,seesIn,sector_eq]
 |succ n ih=>
  have ih:=ih (by omega);have hL:=lastN_length hf (fun _=>true) n;obtain⟨c1,c2,c3⟩:=hc n (by omega);have hb:(D.cache[n].1.toNat+1)*64<=D.sz*64:=Nat.mul_le_mul_right _ (by omega);have a0:(k+1)*64<=D.sz*64:=Nat.mul_le_mul_right _ (by omega);rw[lastN_succ _ _ _ (by omega),if_pos rfl,List.take_succ_eq_append_getElem (by omega),Pv];by_cases h:D.cache[n].1=k
  · rw[if_pos h];have e:D.cache[n].1.toNat=k:=by omega
    rw[e,Pq (by omega) c3];rfl
  · rw[if_neg h,Pp (by omega) (by omega) c3 (by omega),ih]
theorem last_sees {D:Dk}(hf:D.fit=true){k:Nat}(hk:k<D.sz):secOf (D.last fun _=>true) k=D.sees k:=by
 rw[last,Mi hf hk _ (Nat.le_refl _),List.take_length,sees,Int.toNat_natCast]
theorem Gp {D E:Dk}(h:D.fit=true)(h1:E.data.length=D.data.length)(h2:E.cache=D.cache)(h3:E.bad=D.bad):E.fit=true:=by
 have e:E.sz=D.sz:=by unfold sz;rw[h1]
 have e2:∀k,E.there k=D.there k:=fun k=>by unfold there;rw[e]
 have e3:∀x,E.putOk x=D.putOk x:=fun x=>by unfold putOk;rw[e2]
 unfold fit at h ⊢;rw[e,h1,h2,h3,show E.putOk=D.putOk from funext e3,show E.there=D.there from funext e2];exact h
theorem Lt {D E:Dk}(h:D.fit=true)(h1:E.data.length=D.data.length)(h2:E.cache=[])(h3:E.bad=D.bad):E.fit=true:=by
 obtain⟨a,b,c,d,e,f,g⟩:=fit_parts h;have e':E.sz=D.sz:=by unfold sz;rw[h1]
 have:=h;simp only[fit,Bool.and_eq_true,decide_eq_true_eq]at this ⊢;obtain⟨t1,t2,t3,t4,t5,t6,t7⟩:=this;have e2:E.there=D.there:=funext fun k=>by unfold there;rw[e']
 rw[e',h1,h2,h3,e2];exact⟨t1,t2,t3,by simp,by simp,t6,t7⟩
theorem D8 (D:Dk):D.burnt.cache=D.cache:=rfl
theorem Lv {D:Dk}(h:D.fit=true)(hl:D.cache.length<4096){k:Int}{s:List UInt8}(hk:D.there k=true)(hs:s.length=64):(({D with cache:=D.cache++[(k,s)]}:Dk).burnt).fit=true:=by
 have:=h;simp only[fit,Bool.and_eq_true,decide_eq_true_eq,List.all_eq_true]at this ⊢;obtain⟨t1,t2,t3,t4,t5,t6,t7⟩:=this;have e2:((({D with cache:=D.cache++[(k,s)]}:Dk).burnt)).there=D.there:=rfl;refine⟨t1,t2,t3,?_,fun x hx=>?_,t6,t7⟩
 · simp only[D8,List.length_append,List.length_singleton];omega
 · simp only[D8,List.mem_append,List.mem_singleton]at hx;unfold putOk;rw[e2]
   rcases hx with hx|rfl
   · exact t5 x hx
   · simp[hk,hs]
end Dk
end
section
namespace Dk
def put (D:Dk)(k:Int)(s:List UInt8):Dk:=({D with cache:=D.cache++[(k,s)]}:Dk).burnt
variable {D:Dk} {k:Int} {s:List UInt8}
theorem Dy (D:Dk)(k:Int)(s:List UInt8):(D.put k s).cache=D.cache++[(k,s)]:=rfl
theorem Lz (W:Dk)(h:W.off=false):W.flush=({W with off:=true},12)\/W.flush=(({W with data:=W.last fun _=>true,cache:=[]}:Dk).burnt,0):=by
 unfold flush;rw[if_neg (by simp[h])];by_cases h2:W.fuse=0
 · rw[if_pos h2];exact .inl rfl
 · rw[if_neg h2];exact .inr rfl
theorem flushed_fit {W:Dk}(h:W.fit=true)(keep:Nat->Bool):(({W with data:=W.last keep,cache:=[]}:Dk).burnt).fit=true:=by
 refine Lt h ?_ rfl rfl;have:=lastN_length h keep W.cache.length;obtain⟨_,_,hl,_⟩:=fit_parts h;show(W.last keep).length=_;rw[hl];exact this
end Dk
end
section
open Go.RowKit Go.Shelf
def Off (g:Nat)(A:Option Addr)(n:Nat):Prop:=n=0\/∀b off,A=some ⟨b,off,none⟩->b≠g
theorem A7 {w:World}{base g:Nat}{e:TypeId}{size n c m:Nat}{A:Option Addr}{xs:List Value}(h:w.ownsRow base e size (.slice A m c) n xs)(hg:g<base):Off g A m:=by
 refine .inr fun b off e=>?_
 subst e
 rcases h.2 with ⟨h',_⟩|⟨g',cap,cur,h',hb,_⟩
 · cases h'
 · injection h' with h'
   injection h' with h'
   injection h' with h'
   omega
theorem Cj {w:World}{A:Option Addr}{cs:List Value}(h:Cells w A cs){n g:Nat}(hn:n<=cs.length)(hg:w.heap.size<=g):Off g A n:=by
 by_cases h0:n=0
 · exact .inl h0
 · refine .inr fun b off e=>?_
   rcases h with h|⟨b',off',e',hc⟩
   · rw[h]at hn;simp at hn;omega
   · rw[e]at e';injection e' with e'
     injection e' with e'
     subst e';have hl:0<cs.length:=by omega
     have:=Bb (hc 0 cs[0] (by rw[List.getElem?_eq_getElem hl]));simp only at this;omega
theorem Cells.off {w:World}{A:Option Addr}{cs:List Value}(h:Cells w A cs){p:Addr}{n:Nat}(ho:Off p.block A n)(hn:n=0->cs=[])(v:Value):Cells (w.setCell p v) A cs:=by
 rcases ho with h0|ho
 · exact .inl (hn h0)
 · exact h.setCell ho v
def DkOff (g:Nat)(D:Dk)(p q:Pl):Prop:=Off g p.a D.cache.length/\Off g q.a D.bad.length
theorem IsDk.off {w:World}{D:Dk}{p q:Pl}(h:IsDk w D p q){a:Addr}(ho:DkOff a.block D p q)(v:Value):IsDk (w.setCell a v) D p q:=
 {h with cache:=h.cache.off ho.1 (fun e=>by rw[List.length_eq_zero_iff.1 e];rfl) v,bad:=h.bad.off ho.2 (fun e=>by rw[List.length_eq_zero_iff.1 e];rfl) v}
theorem IsDk.o1 {B:Nat}{u W:World}{a:Addr}{v:Value}{D:Dk}{p q:Pl}(h:IsDk W D p q)(hb:Below B u (W.setCell a v))(ho:DkOff a.block D p q):IsDk (W.setCell a v) D p q:=h.off ho v
theorem IsDk.apart {w:World}{D:Dk}{p q:Pl}(h:IsDk w D p q){g:Nat}(hg:w.heap.size<=g):DkOff g D p q:=
 ⟨Cj h.cache (by rw[Cm];omega) hg,Cj h.bad (by rw[CE];exact Nat.le_refl _) hg⟩
def RetDkN (B:Nat)(D:Dk)(p q:Pl)(X:Dk×Int)(e:Ending)(w:World):Prop:=
 ∃p' q',e=.returned (.tuple #[dval X.1 p' q',.int .i64 X.2])/\IsDk w X.1 p' q'/\∀g,g<B->DkOff g D p q->DkOff g X.1 p' q'
theorem RetDkN.ret {B:Nat}{D:Dk}{p q:Pl}{X:Dk×Int}{e:Ending}{w:World}(h:RetDkN B D p q X e w):RetDk X e w:=by
 obtain⟨p',q',he,hi,_⟩:=h;exact⟨p',q',he,hi⟩
structure Pn where
 targets:List Int
 data:List (List UInt8)
abbrev pval (L:Pn)(p q:Pl):Value:=.agg #[.slice p.a L.targets.length p.c,.slice q.a L.data.length q.c]
structure IsPn (w:World) (L:Pn) (p q:Pl):Prop where
 targets:Cells w p.a (intCells L.targets)
 data:Cells w q.a (strCells L.data)
 pn:p.a=none->p.c=0
 qn:q.a=none->q.c=0
 pc:L.targets.length<=p.c
 qc:L.data.length<=q.c
 pm:p.c<=maxLen
 qm:q.c<=maxLen
 ats:∀x∈L.targets,-9223372036854775808<=x/\x<=9223372036854775807
 strs:∀x∈L.data,x.length<=9223372036854775807
theorem IsPn.below {w w':World}{L:Pn}{p q:Pl}(h:IsPn w L p q)(hb:Below w.heap.size w w'):IsPn w' L p q:=
 {h with targets:=h.targets.below hb,data:=h.data.below hb}
theorem AI (w:World):IsPn w ⟨[],[]⟩ ⟨none,0⟩ ⟨none,0⟩:=
 ⟨.inl rfl,.inl rfl,fun _=>rfl,fun _=>rfl,Nat.le_refl _,Nat.le_refl _,Nat.zero_le _,Nat.zero_le _,fun _ h=>(by cases h),fun _ h=>(by cases h)⟩
def PnOff (g:Nat)(L:Pn)(p q:Pl):Prop:=Off g p.a L.targets.length/\Off g q.a L.data.length
theorem IsPn.off {w:World}{L:Pn}{p q:Pl}(h:IsPn w L p q){a:Addr}(ho:PnOff a.block L p q)(v:Value):IsPn (w.setCell a v) L p q:=
 {h with targets:=h.targets.off ho.1 (fun e=>by rw[List.length_eq_zero_iff.1 e];rfl) v,data:=h.data.off ho.2 (fun e=>by rw[List.length_eq_zero_iff.1 e];rfl) v}
theorem IsPn.o1 {B:Nat}{u W:World}{a:Addr}{v:Value}{D:Pn}{p q:Pl}(h:IsPn W D p q)(hb:Below B u (W.setCell a v))(ho:PnOff a.block D p q):IsPn (W.setCell a v) D p q:=h.off ho v
theorem IsPn.apart {w:World}{L:Pn}{p q:Pl}(h:IsPn w L p q){g:Nat}(hg:w.heap.size<=g):PnOff g L p q:=
 ⟨Cj h.targets (by rw[CE];exact Nat.le_refl _) hg,Cj h.data (by rw[strCells_length];exact Nat.le_refl _) hg⟩
def RetPn (B:Nat)(L:Pn)(p q:Pl)(X:Pn×Int)(e:Ending)(w:World):Prop:=
 ∃p' q',e=.returned (.tuple #[pval X.1 p' q',.int .i64 X.2])/\IsPn w X.1 p' q'/\∀g,g<B->PnOff g L p q->PnOff g X.1 p' q'
theorem ap2 {α:Value->Value->Prop}(f:∀a b,α a b)(L:Pn)(a:Option Addr)(c:Nat)(b:Option Addr)(e:Nat):α (.slice a L.targets.length c) (.slice b L.data.length e):=f _ _
theorem apc2 {α:Array Value->Prop}(f:∀A,α A)(L:Pn)(a:Option Addr)(c:Nat)(b:Option Addr)(e:Nat):α #[.slice a L.targets.length c,.slice b L.data.length e]:=f _
theorem retPn {P:Program}{f:Func}{B B':Nat}{L:Pn}{p q:Pl}{X:Pn×Int}{p' q':Pl}{a:Act}{u w:World}(i:IsPn w X.1 p' q')(ho:∀g,g<B->PnOff g L p q->PnOff g X.1 p' q')(bw:Below B' u w)(hr:(results f a.tmps).run P w=.ok (.tuple #[pval X.1 p' q',.int .i64 X.2]) w)(hd:a.defers=[]):
 bodyPost P f (fun e w'=>RetPn B L p q X e w'/\Below B' u w') .ret a w:=bodyPost_ret hr hd ⟨⟨p',q',rfl,i,ho⟩,bw⟩
def sectorOk (k:Int):Bool:=decide (0<=k)&&decide (k<1024)
namespace Pn
def find (L:Pn)(k:Int):Int:=if k∈L.targets then((L.targets.idxOf k:Nat):Int)else-1
theorem find_hit {L:Pn}{k:Int}{i:Nat}(hi:i<L.targets.length)(h:L.targets[i]=k)(hne:∀j (hj:j<L.targets.length),j<i->L.targets[j]≠k):L.find k=i:=by
 have hm:k∈L.targets:=h▸List.getElem_mem hi;rw[find,if_pos hm];have h1:=List.idxOf_lt_length_iff.2 hm;have h2:=List.getElem_idxOf h1
 congr 1
 rcases Nat.lt_trichotomy (L.targets.idxOf k) i with h3|h3|h3
 · exact absurd h2 (hne _ h1 h3)
 · exact h3
 · exfalso
   have:=List.not_of_lt_findIdx (show i<List.findIdx (· ==k) L.targets from h3);rw[h]at this;simp at this
theorem find_miss {L:Pn}{k:Int}(hne:∀j (hj:j<L.targets.length),L.targets[j]≠k):L.find k= -1:=by
 rw[find,if_neg];intro hm;obtain⟨j,hj,e⟩:=List.getElem_of_mem hm;exact hne j hj e
theorem find_in {L:Pn}{k:Int}(h:k∈L.targets):∃i:Nat,∃hi:i<L.targets.length,L.find k=i/\L.targets[i]=k/\L.targets.idxOf k=i:=by
 have h1:=List.idxOf_lt_length_iff.2 h;exact⟨_,h1,by rw[find,if_pos h],List.getElem_idxOf h1,rfl⟩
theorem find_out {L:Pn}{k:Int}(h:k∉L.targets):L.find k= -1:=by rw[find,if_neg h]
def Fit (L:Pn):Prop:=L.targets.length=L.data.length/\L.targets.length<=24/\(∀i (h:i<L.targets.length),sectorOk L.targets[i]=true/\L.find L.targets[i]=i)/\∀i (h:i<L.data.length),L.data[i].length=64
open Classical in
noncomputable def fit (L:Pn):Bool:=decide L.Fit
theorem fit_iff {L:Pn}:L.fit=true↔L.Fit:=by simp[fit]
theorem fit_no {L:Pn}(h:¬L.Fit):L.fit=false:=by simp[fit,h]
def same (L M:Pn):Bool:=decide (L.targets=M.targets)&&decide (L.data=M.data)
theorem same_self (L:Pn):L.same L=true:=by simp[same]
def look (D:Dk)(L:Pn)(k:Int):List UInt8×Int:=if k∈L.targets then(L.data.getD (L.targets.idxOf k) [],0)else D.read k
def set (L:Pn)(k:Int)(s:List UInt8):Pn×Int:=
 if sectorOk k=false then(L,10)else if s.length≠64 then(L,11)else if k∈L.targets then(⟨L.targets,L.data.set (L.targets.idxOf k) s⟩,0)
 else if 24<=L.targets.length then(L,16)else(⟨L.targets++[k],L.data++[s]⟩,0)
def laidOver (b:List UInt8)(o:Int)(s:List UInt8):List UInt8×Int:=if o<0\/(b.length:Int)-s.length<o then([],10)else(over b o.toNat s,0)
def patch (D:Dk)(L:Pn)(k o:Int)(s:List UInt8):Pn×Int:=
 if(look D L k).2≠0 then(L,(look D L k).2)else if(laidOver (look D L k).1 o s).2≠0 then(L,(laidOver (look D L k).1 o s).2)else set L k (laidOver (look D L k).1 o s).1
end Pn
end
section
namespace Pn
theorem IH {L:Pn}{k:Int}{s:List UInt8}(h:(L.set k s).2≠0):(L.set k s).1=L:=by
 revert h
 rw[set]
 split
 · intro _;rfl
 · split
   · intro _;rfl
   · split
     · intro h;exact absurd rfl h
     · split
       · intro _;rfl
       · intro h;exact absurd rfl h
theorem E5 {L:Pn}{k:Int}{s:List UInt8}(h:(L.set k s).2=0):sectorOk k=true/\s.length=64/\
 ((k∈L.targets/\(L.set k s).1=⟨L.targets,L.data.set (L.targets.idxOf k) s⟩)\/(k∉L.targets/\L.targets.length<24/\(L.set k s).1=⟨L.targets++[k],L.data++[s]⟩)):=by
 revert h
 rw[set]
 split
 · intro h;simp at h
 · rename_i h1
   split
   · intro h;simp at h
   · rename_i h2
     split
     · rename_i h3
       intro _;exact⟨by simpa using h1,by simpa using h2,.inl ⟨h3,rfl⟩⟩
     · rename_i h3
       split
       · intro h;simp at h
       · rename_i h4
         intro _;exact⟨by simpa using h1,by simpa using h2,.inr ⟨h3,by omega,rfl⟩⟩
theorem Lo (L M:Pn)(h:L.targets=M.targets)(k:Int):L.find k=M.find k:=by rw[find,find,h]
theorem Ls {l:List Int}{k x:Int}{a b:List (List UInt8)}(hx:x∈l):find ⟨l++[k],a⟩ x=find ⟨l,b⟩ x:=by
 rw[find,find];simp only[if_pos (List.mem_append_left [k] hx),if_pos hx];rw[List.idxOf_append,if_pos hx]
theorem Lq {l:List Int}{k:Int}{a:List (List UInt8)}(hx:k∉l):find ⟨l++[k],a⟩ k=l.length:=by
 rw[find];simp only[if_pos (List.mem_append_right l (List.mem_singleton.2 rfl))];rw[List.idxOf_append,if_neg hx];simp
theorem set_fit {L:Pn}(h:L.Fit)(k:Int)(s:List UInt8):(L.set k s).1.Fit:=by
 by_cases h0:(L.set k s).2=0
 · obtain⟨h1,h2,⟨h3,e⟩|⟨h3,h4,e⟩⟩:=E5 h0
   · rw[e];refine⟨by simpa using h.1,h.2.1,fun i hi=>?_,fun i hi=>?_⟩
     · have:=h.2.2.1 i hi;exact⟨this.1,(Lo _ L rfl _).trans this.2⟩
     · simp only[List.length_set]at hi;simp only[List.getElem_set]
       split
       · exact h2
       · exact h.2.2.2 i hi
   · rw[e];refine⟨by simpa using h.1,by simp;omega,fun i hi=>?_,fun i hi=>?_⟩
     · simp only[List.length_append,List.length_singleton]at hi
       rcases Nat.lt_or_ge i L.targets.length with hl|hl
       · simp only[List.getElem_append_left hl];have:=h.2.2.1 i hl;exact⟨this.1,(Ls (List.getElem_mem hl)).trans this.2⟩
       · obtain rfl:i=L.targets.length:=by omega
         simp only[List.getElem_append_right (Nat.le_refl _),Nat.sub_self,List.getElem_singleton];exact⟨h1,Lq h3⟩
     · simp only[List.length_append,List.length_singleton]at hi
       rcases Nat.lt_or_ge i L.data.length with hl|hl
       · simp only[List.getElem_append_left hl];exact h.2.2.2 i hl
       · obtain rfl:i=L.data.length:=by omega
         simp only[List.getElem_append_right (Nat.le_refl _),Nat.sub_self,List.getElem_singleton];exact h2
 · rw[IH h0];exact h
theorem Dl {L:Pn}(h:L.Fit){k:Int}{s:List UInt8}(h0:(L.set k s).2=0)(D:Dk):look D (L.set k s).1 k=(s,0)/\∀o,o≠k->look D (L.set k s).1 o=look D L o:=by
 obtain⟨h1,h2,⟨h3,e⟩|⟨h3,h4,e⟩⟩:=E5 h0
 · obtain⟨i,hi,f1,f2,f3⟩:=find_in h3;have hd:i<L.data.length:=by rw[<-h.1];exact hi
   rw[e,f3];refine⟨?_,fun o ho=>?_⟩
   · rw[look];simp only[if_pos h3,f3];rw[List.getD_eq_getElem?_getD,List.getElem?_set_self hd];rfl
   · rw[look,look];by_cases hm:o∈L.targets
     · obtain⟨j,hj,g1,g2,g3⟩:=find_in hm;simp only[if_pos hm,g3];have:i≠j:=by rintro rfl;exact ho (g2.symm.trans f2)
       rw[List.getD_eq_getElem?_getD,List.getD_eq_getElem?_getD,List.getElem?_set_ne this]
     · simp only[if_neg hm]
 · rw[e];refine⟨?_,fun o ho=>?_⟩
   · rw[look];simp only[if_pos (List.mem_append_right L.targets (List.mem_singleton.2 rfl))];rw[List.idxOf_append,if_neg h3];simp[h.1,List.getD_eq_getElem?_getD]
   · rw[look,look];by_cases hm:o∈L.targets
     · obtain⟨j,hj,g1,g2,g3⟩:=find_in hm;simp only[if_pos hm,if_pos (List.mem_append_left [k] hm)];rw[List.idxOf_append,if_pos hm,g3,List.getD_eq_getElem?_getD,List.getD_eq_getElem?_getD,List.getElem?_append_left (by rw[<-h.1];exact hj)]
     · have:o∉L.targets++[k]:=by simp[hm,ho]
       simp only[if_neg hm,if_neg this]
end Pn
end
section
namespace Pn
theorem Py {L X:Pn}{k:Int}{s:List UInt8}(hX:L.set k s=(X,0))(x:Int):x∈X.targets↔x∈L.targets\/x=k:=by
 obtain⟨_,_,⟨h3,e⟩|⟨h3,_,e⟩⟩:=E5 (L:=L) (k:=k) (s:=s) (by rw[hX])
 · rw[hX]at e;have e:X=_:=e;rw[e];constructor
   · exact .inl
   · rintro(h|rfl)
     · exact h
     · exact h3
 · rw[hX]at e;have e:X=_:=e;rw[e];simp
end Pn
end
section
theorem CQ (a b:List UInt8):un (a++b)=un a*256^b.length+un b:=by
 have h:∀(l:List UInt8)(n:Nat),l.foldl (fun n c=>n*256+c.toNat) n=n*256^l.length+un l:=by
  intro l
  induction l with
  |nil=>intro n;simp[un]
  |cons c l ih=>
   intro n;rw[List.foldl_cons,ih];show _=n*256^(l.length+1)+un (c::l);have e:un (c::l)=(0*256+c.toNat)*256^l.length+un l:=by rw[un,List.foldl_cons,ih]
   rw[e,Nat.pow_succ,Nat.add_mul];simp only[Nat.zero_mul,Nat.zero_add];rw[Nat.mul_assoc,Nat.mul_comm 256];omega
 rw[un,List.foldl_append];exact h b _
theorem Cv (k:Nat):∀n:Nat,un (be k n)=n%256^k:=by
 induction k with
 |zero=>intro n;simp[be,un,Nat.mod_one]
 |succ k ih=>
  intro n;have e:be (k+1) n=[UInt8.ofNat (n/256^k)]++be k n:=rfl;rw[e,CQ,ih,Ar];have h1:un [UInt8.ofNat (n/256^k)]=n/256^k%256:=by simp[un]
  rw[h1,Nat.pow_succ,Nat.mod_mul];rw[Nat.mul_comm,Nat.add_comm]
def cut (s:List UInt8)(o n:Nat):List UInt8:=(s.drop o).take n
theorem Kk {s:List UInt8}{o n:Nat}(h:o+n<=s.length):(cut s o n).length=n:=by simp[cut];omega
theorem BD {s:List UInt8}{o n j:Nat}:(cut s o n)[j]? =if j<n then s[o+j]? else none:=by
 unfold cut
 split
 · rename_i h;rw[List.getElem?_take_of_lt h,List.getElem?_drop]
 · rename_i h;rw[List.getElem?_eq_none];simp;omega
theorem FX {s t:List UInt8}{o:Nat}(h:o+t.length<=s.length):cut (over s o t) o t.length=t:=by
 apply List.ext_getElem?
 intro j;rw[BD]
 split
 · rename_i hj;rw[Dr _ _ _ _ h,if_pos ⟨by omega,by omega⟩];congr 1;omega
 · rename_i hj;rw[List.getElem?_eq_none];omega
theorem FY {s t:List UInt8}{o p n:Nat}(h:o+t.length<=s.length)(hp:p+n<=o\/o+t.length<=p):cut (over s o t) p n=cut s p n:=by
 apply List.ext_getElem?
 intro j;rw[BD,BD]
 split
 · rename_i hj;rw[Dr _ _ _ _ h,if_neg (by omega)]
 · rfl
theorem Dk.read_full {D:Dk}(hD:D.fit=true){k:Int}(h:(D.read k).2=0):(D.read k).1.length=64:=by
 obtain⟨_,_,hl,_,hc,_⟩:=Dk.fit_parts hD
 revert h
 rw[Dk.read]
 split
 · intro h;simp at h
 · split
   · intro h;simp at h
   · rename_i ht
     split
     · intro h;simp at h
     · intro _;simp only[Dk.there,Bool.and_eq_false_iff,decide_eq_false_iff_not,not_or,Classical.not_not]at ht;show(D.sees k).length=64;rw[Dk.sees];cases h:Dk.seesIn D.cache k with
       |some s=>
        rw[Option.getD_some];clear ht;have:∀(l:List (Int×List UInt8)),(∀i (h:i<l.length),l[i].2.length=64)->Dk.seesIn l k=some s->s.length=64:=by
         intro l
         induction l with
         |nil=>intro _ h;simp[Dk.seesIn]at h
         |cons x l ih=>
          intro hx h;rw[Dk.seesIn]at h
          split at h
          · rename_i s' e
            injection h with h;subst h
            exact ih (fun i hi=>by have:=hx (i+1) (by simpa using hi);simpa using this) e
          · split at h
            · injection h with h;subst h;exact hx 0 (by simp)
            · cases h
        exact this _ (fun i hi=>(hc i hi).2.2) h
       |none=>
        rw[Option.getD_none,Dk.sector,List.length_drop,List.length_take];have h1:k.toNat+1<=D.sz:=by omega
        have h2:(k.toNat+1)*64<=D.data.length:=by rw[hl];exact Nat.mul_le_mul_right 64 h1
        omega
namespace Pn
theorem look_full {D:Dk}{L:Pn}(hD:D.fit=true)(hL:L.Fit){k:Int}(h:(look D L k).2=0):(look D L k).1.length=64:=by
 revert h
 rw[look]
 split
 · rename_i hm
   intro _;obtain⟨i,hi,_,_,e⟩:=find_in hm;have h0:i<L.data.length:=by rw[<-hL.1];exact hi
   rw[e,List.getD_eq_getElem?_getD,List.getElem?_eq_getElem h0];exact hL.2.2.2 i h0
 · exact Dk.read_full hD
theorem EJ {D:Dk}{L X:Pn}{k o:Int}{t:List UInt8}(hD:D.fit=true)(hL:L.Fit)(h:patch D L k o t=(X,0)):
 (look D L k).2=0/\0<=o/\o.toNat+t.length<=64/\L.set k (over (look D L k).1 o.toNat t)=(X,0):=by
 rw[patch]at h
 split at h
 · rename_i h0;injection h with _ h;exact absurd h h0
 · rename_i h0
   have h0:(look D L k).2=0:=by simpa using h0
   have hl:=look_full hD hL h0;by_cases h2:o<0\/((look D L k).1.length:Int)-t.length<o
   · rw[laidOver,if_pos h2,if_pos (by simp)]at h;injection h with _ h;simp at h
   · rw[laidOver,if_neg h2,if_neg (by simp)]at h;exact⟨h0,by omega,by omega,h⟩
theorem G7 {D:Dk}{L:Pn}{k o:Int}{t:List UInt8}(h:(patch D L k o t).2≠0):(patch D L k o t).1=L:=by
 revert h
 rw[patch]
 split
 · intro _;rfl
 · split
   · intro _;rfl
   · exact fun h=>IH h
theorem G6 {D:Dk}{L X:Pn}{k o:Int}{t:List UInt8}(hD:D.fit=true)(hL:L.Fit)(h:patch D L k o t=(X,0)):
 X.Fit/\look D X k=(over (look D L k).1 o.toNat t,0)/\(∀j,j≠k->look D X j=look D L j)/\k∈X.targets:=by
 obtain⟨h0,h1,h2,h3⟩:=EJ hD hL h;have hf:=set_fit hL k (over (look D L k).1 o.toNat t);have hs:=Dl hL (k:=k) (s:=over (look D L k).1 o.toNat t) (by rw[h3]) D;rw[h3]at hf hs;exact⟨hf,hs.1,hs.2,(Py h3 k).2 (.inr rfl)⟩
def cntGet (D:Dk)(L:Pn)(k:Int):Int×Int:=
 if k<0\/256<=k then(0,10)else if(look D L (87+k/32)).2≠0 then(0,(look D L (87+k/32)).2)else((un (cut (look D L (87+k/32)).1 (2*(k%32)).toNat 2):Nat),0)
def cntAdd (D:Dk)(L:Pn)(k b:Int):Pn×Int:=
 if(cntGet D L k).2≠0 then(L,(cntGet D L k).2)else if b< -(cntGet D L k).1\/65535-(cntGet D L k).1<b then(L,18)
 else patch D L (87+k/32) (2*(k%32)) (be 2 ((cntGet D L k).1+b).toNat)
theorem cntGet_le (D:Dk)(L:Pn)(k:Int):0<=(cntGet D L k).1/\(cntGet D L k).1<=65535:=by
 rw[cntGet]
 split
 · simp
 · split
   · simp
   · have:=By (cut (look D L (87+k/32)).1 (2*(k%32)).toNat 2);have h2:(cut (look D L (87+k/32)).1 (2*(k%32)).toNat 2).length<=2:=by simp[cut];omega
     have h3:=Nat.pow_le_pow_right (show 0<256 by omega) h2;show 0<=((un (cut (look D L (87+k/32)).1 (2*(k%32)).toNat 2):Nat):Int)/\((un (cut (look D L (87+k/32)).1 (2*(k%32)).toNat 2):Nat):Int)<=65535;omega
theorem JU {D:Dk}{L:Pn}{k b:Int}(h:(cntAdd D L k b).2≠0):(cntAdd D L k b).1=L:=by
 revert h
 rw[cntAdd]
 split
 · intro _;rfl
 · split
   · intro _;rfl
   · exact G7
theorem JV {D:Dk}{L X:Pn}{k b:Int}(hD:D.fit=true)(hL:L.Fit)(h:cntAdd D L k b=(X,0)):
 0<=k/\k<256/\(cntGet D L k).2=0/\ -(cntGet D L k).1<=b/\b<=65535-(cntGet D L k).1/\X.Fit/\cntGet D X k=((cntGet D L k).1+b,0)/\(∀j,j≠k->cntGet D X j=cntGet D L j)/\87+k/32∈X.targets:=by
 have a0:=cntGet_le D L k;rw[cntAdd]at h
 split at h
 · rename_i h0;injection h with _ h;exact absurd h h0
 · rename_i h0
   have h0:(cntGet D L k).2=0:=by simpa using h0
   split at h
   · injection h with _ h;simp at h
   · rename_i h1
     have hk:¬(k<0\/256<=k):=fun hk=>by rw[cntGet,if_pos hk]at h0;simp at h0
     obtain⟨p1,p2,p3,p4⟩:=G6 hD hL h;obtain⟨q1,q2,q3,_⟩:=EJ hD hL h;have hl:=look_full hD hL q1;rw[Ar]at q3;obtain⟨m,hm⟩:∃m:Nat,(cntGet D L k).1+b=m:=⟨((cntGet D L k).1+b).toNat,by omega⟩;have a1:m<65536:=by omega
     rw[hm]at p2;simp only[Int.toNat_natCast]at p2;refine⟨by omega,by omega,h0,by omega,by omega,p1,?_,fun j hj=>?_,p4⟩
     · rw[cntGet,if_neg hk,p2];simp only[ne_eq,not_true_eq_false,if_false];have e:=FX (s:=(look D L (87+k/32)).1) (t:=be 2 m) (o:=(2*(k%32)).toNat) (by rw[Ar,hl];exact q3);rw[Ar]at e;rw[e,Cv,hm,Nat.mod_eq_of_lt (by omega)]
     · rw[cntGet,cntGet];by_cases hj2:j<0\/256<=j
       · rw[if_pos hj2,if_pos hj2]
       · rw[if_neg hj2,if_neg hj2];by_cases hs:j/32=k/32
         · rw[hs,p2,q1];simp only[ne_eq,not_true_eq_false,if_false];rw[FY (by rw[Ar,hl];exact q3) (by rw[Ar];omega)]
         · rw[p3 _ (by omega)]
end Pn
end
section
def allN {α:Type}(f:Nat->α×Int):Nat->List α×Int
 |0=>([],0)
 |n+1=>if(allN f n).2≠0 then allN f n else if(f n).2≠0 then([],(f n).2)else((allN f n).1++[(f n).1],0)
section
variable {α:Type} {f:Nat->α×Int}
theorem Fn {n:Nat}(h:(allN f n).2=0)(hg:(f n).2=0):allN f (n+1)=((allN f n).1++[(f n).1],0):=by
 rw[allN,if_neg (by rw[h];simp),if_neg (by rw[hg];simp)]
theorem Fo {n:Nat}(h:(allN f n).2=0)(hg:(f n).2≠0):∀m,n<m->allN f m=([],(f n).2):=by
 intro m hm
 induction m with
 |zero=>omega
 |succ m ih=>
  rcases Nat.lt_or_eq_of_le (Nat.le_of_lt_succ hm)with h1|h1
  · rw[allN,ih h1,if_pos hg]
  · subst h1;rw[allN,if_neg (by rw[h];simp),if_pos hg]
theorem Cx {n:Nat}(h:(allN f n).2=0):(allN f n).1.length=n/\∀i:Nat,i<n->(f i).2=0/\(allN f n).1[i]? =some (f i).1:=by
 induction n with
 |zero=>exact⟨rfl,fun i hi=>by omega⟩
 |succ n ih=>
  by_cases h1:(allN f n).2=0
  · by_cases h2:(f n).2=0
    · obtain⟨a,b⟩:=ih h1;rw[Fn h1 h2];refine⟨by simp[a],fun i hi=>?_⟩
      rcases Nat.lt_or_eq_of_le (Nat.le_of_lt_succ hi)with h3|h3
      · exact⟨(b i h3).1,by show((allN f n).1++[(f n).1])[i]? =_;rw[List.getElem?_append_left (by omega)];exact(b i h3).2⟩
      · subst h3;exact⟨h2,by show((allN f i).1++[(f i).1])[i]? =_;rw[List.getElem?_append_right (by omega),a];simp⟩
    · rw[allN,if_neg (by rw[h1];simp),if_pos h2]at h;exact absurd h h2
  · rw[allN,if_pos h1]at h;exact absurd h h1
theorem Fk {n:Nat}(h:(allN f n).2≠0):(allN f n).1=[]:=by
 induction n with
 |zero=>rfl
 |succ n ih=>
  revert h
  rw[allN]
  split
  · rename_i h1;intro _;exact ih h1
  · split
    · intro _;rfl
    · intro h;exact absurd rfl h
theorem Jo (n:Nat):(allN f n).1.length<=n:=by
 by_cases h:(allN f n).2=0
 · rw[(Cx h).1];exact Nat.le_refl _
 · rw[Fk h];exact Nat.zero_le _
theorem Cw {n:Nat}(h:∀i:Nat,i<n->(f i).2=0):(allN f n).2=0:=by
 induction n with
 |zero=>rfl
 |succ n ih=>rw[Fn (ih (fun i hi=>h i (by omega))) (h n (by omega))]
theorem Fm (n:Nat):∀x∈(allN f n).1,∃i,i<n/\x=(f i).1:=by
 intro x hx;by_cases h:(allN f n).2=0
 · obtain⟨a,b⟩:=Cx h;obtain⟨i,hi,rfl⟩:=List.getElem_of_mem hx;have:=(b i (by omega)).2;rw[List.getElem?_eq_getElem hi]at this;injection this with this
   exact⟨i,by omega,this⟩
 · rw[Fk h]at hx;cases hx
end
namespace Pn
variable {D:Dk} {L:Pn}
end Pn
end
section
namespace Pn
variable {D:Dk} {L:Pn}
end Pn
end
section
namespace Dk
def layIn:List (Int×List UInt8)->Dk->Dk×Int
 |[],D=>(D,0)
 |x::l,D=>if(D.write x.1 x.2).2≠0 then D.write x.1 x.2 else layIn l (D.write x.1 x.2).1
theorem Rc {D:Dk}{k:Int}{s:List UInt8}:(D.write k s).2=0->(D.write k s).1=D.put k s/\D.off=false/\D.there k=true/\k∉D.bad/\s.length=64/\D.cache.length<4096:=by
 rw[write]
 split
 · intro h;simp at h
 split
 · intro h;simp at h
 split
 · intro h;simp at h
 split
 · intro h;simp at h
 split
 · intro h;simp at h
 split
 · intro h;simp at h
 · rename_i h1 h2 h3 h4 h5 h6
   intro _;exact⟨rfl,by simpa using h1,by simpa using h2,h5,by omega,by omega⟩
end Dk
namespace Pn
def lay (D:Dk)(L:Pn):Dk×Int:=Dk.layIn (L.targets.zip L.data) D
end Pn
end
section
structure Tx where
 seq:Nat
 plan:Pn
def txSize (n:Nat):Nat:=if n=0\/24<n then 0 else n+(n-1)/16+2
def At (s:List UInt8):List UInt8:=s++List.replicate (64-s.length) 0
def nums (l:List Int):List UInt8:=l.flatMap fun x=>be 4 x.toNat
def magicJ:List UInt8:=[67,79,70,74]
def idxRows (l:List Int):List (List UInt8):=if l.length<=16 then [At (nums l)]else [At (nums (l.take 16)),At (nums (l.drop 16))]
def headRow (h:List UInt8)(n:Nat)(b:List UInt8):List UInt8:=At (magicJ++h++be 2 (65535-n)++be 4 (crcOf (h++b)))
namespace Tx
def zero:Tx:=⟨0,⟨[],[]⟩⟩
def rest (t:Tx):List (List UInt8):=idxRows t.plan.targets++t.plan.data
def head (t:Tx):List UInt8:=be 8 t.seq++be 2 t.plan.targets.length
def top (t:Tx):List UInt8:=headRow t.head t.plan.targets.length t.rest.flatten
def rows (t:Tx):List (List UInt8):=t.top::t.rest
def Ok (t:Tx):Prop:=t.plan.Fit/\t.plan.targets≠[]
open Classical in
noncomputable def write (t:Tx):List (List UInt8)×Int:=if t.Ok then(t.rows,0)else([],25)
def same (t u:Tx):Bool:=decide (t.seq=u.seq)&&t.plan.same u.plan
end Tx
def hn (s:List UInt8):Nat:=un (cut s 12 2)
def hm (s:List UInt8):Nat:=un (cut s 14 2)
def hcount (s:List UInt8):Nat:=if s.length=64/\magicJ.isPrefixOf s=true/\txSize (hn s)≠0/\hn s+hm s=65535 then hn s else 0
def bodyOf (l:List (List UInt8))(n:Nat):List UInt8:=((l.take n).drop 1).flatten
def parse (l:List (List UInt8))(n:Nat):Tx:=
 ⟨un (cut (l.headD []) 4 8),⟨(List.range n).map fun i=>(un (cut (bodyOf l (txSize n)) (4*i) 4):Int),(l.take (txSize n)).drop (txSize n-n)⟩⟩
open Classical in
noncomputable def txRead (l:List (List UInt8)):Tx×Int:=
 if l=[]then(Tx.zero,22)else if hcount (l.headD [])=0 then(Tx.zero,14)else if l.length<txSize (hcount (l.headD []))then(Tx.zero,22)
 else if∃s∈l.take (txSize (hcount (l.headD []))),s.length≠64 then(Tx.zero,11)
 else if be 4 (crcOf (cut (l.headD []) 4 10++bodyOf l (txSize (hcount (l.headD [])))))≠cut (l.headD []) 16 4 then(Tx.zero,15)
 else if(parse l (hcount (l.headD []))).write=(l.take (txSize (hcount (l.headD []))),0)then(parse l (hcount (l.headD [])),0)else(Tx.zero,14)
theorem QF {n:Nat}:txSize n≠0↔1<=n/\n<=24:=by unfold txSize;split<;>omega
theorem CH {s:List UInt8}(h:s.length<=64):(At s).length=64:=by simp[At];omega
theorem BI (l:List Int):(nums l).length=4*l.length:=by
 induction l with
 |nil=>rfl
 |cons a l ih=>simp only[nums,List.flatMap_cons,List.length_append,Ar,List.length_cons]at ih ⊢;omega
theorem EE (l m:List Int):nums (l++m)=nums l++nums m:=by simp[nums]
theorem Es {l:List Int}(h0:l≠[])(h:l.length<=24):(idxRows l).length+l.length+1=txSize l.length:=by
 have:=List.length_pos_iff.2 h0;unfold idxRows txSize
 split
 · rw[if_neg (by omega)];simp only[List.length_singleton];omega
 · rw[if_neg (by omega)];simp only[List.length_cons,List.length_nil];omega
theorem LO {l:List Int}(h:l.length<=24):∀s∈idxRows l,s.length=64:=by
 intro s hs;unfold idxRows at hs
 split at hs
 · obtain rfl:=List.mem_singleton.1 hs;exact CH (by rw[BI];omega)
 · rcases List.mem_cons.1 hs with rfl|hs
   · exact CH (by rw[BI,List.length_take];omega)
   · obtain rfl:=List.mem_singleton.1 hs;exact CH (by rw[BI,List.length_drop];omega)
theorem LP (l:List Int)(h:l.length<=24):∃z,(idxRows l).flatten=nums l++z:=by
 unfold idxRows
 split
 · exact⟨_,by simp only[List.flatten_cons,List.flatten_nil,List.append_nil,At];rfl⟩
 · refine⟨List.replicate (64-(nums (l.drop 16)).length) 0,?_⟩;have e:At (nums (l.take 16))=nums (l.take 16):=by
    unfold At;rw[BI,List.length_take,show 64-4*min 16 l.length=0 by omega];simp
   simp only[List.flatten_cons,List.flatten_nil,List.append_nil,e];rw[At,<-List.append_assoc,<-EE,List.take_append_drop]
theorem MF:∀(l:List Int)(z:List UInt8)(i:Nat)(h:i<l.length),cut (nums l++z) (4*i) 4=be 4 l[i].toNat:=by
 intro l
 induction l with
 |nil=>intro z i h;simp at h
 |cons a l ih=>
  intro z i h;have e:nums (a::l)++z=be 4 a.toNat++(nums l++z):=by simp[nums]
  rw[e];cases i with
  |zero=>
   rw[cut,Nat.mul_zero,List.drop_zero,List.take_left' (Ar 4 _)];rfl
  |succ i=>
   have:=ih z i (by simpa using h);rw[cut,show 4*(i+1)=(be 4 a.toNat).length+4*i by rw[Ar];omega,<-List.drop_drop,List.drop_left];exact this
namespace Tx
theorem head_length (t:Tx):t.head.length=10:=by simp[head,Ar]
theorem rest_64 {t:Tx}(h:t.Ok):∀s∈t.rest,s.length=64:=by
 intro s hs
 rcases List.mem_append.1 hs with hs|hs
 · exact LO h.1.2.1 s hs
 · obtain⟨i,hi,rfl⟩:=List.getElem_of_mem hs;exact h.1.2.2.2 i hi
end Tx
theorem Ep (h:List UInt8)(n:Nat)(b:List UInt8)(hl:h.length=10):headRow h n b=magicJ++(h++(be 2 (65535-n)++(be 4 (crcOf (h++b))++List.replicate 44 0))):=by
 unfold headRow At;have:(magicJ++h++be 2 (65535-n)++be 4 (crcOf (h++b))).length=20:=by simp[Ar,hl,magicJ]
 rw[this];simp only[List.append_assoc]
theorem LJ (h:List UInt8)(n:Nat)(b:List UInt8)(hl:h.length=10):(headRow h n b).length=64:=by
 rw[Ep h n b hl];simp[Ar,hl,magicJ]
theorem Dg (h:List UInt8)(n:Nat)(b:List UInt8)(hl:h.length=10):
 (headRow h n b).take 4=magicJ/\cut (headRow h n b) 4 10=h/\cut (headRow h n b) 14 2=be 2 (65535-n)/\cut (headRow h n b) 16 4=be 4 (crcOf (h++b)):=by
 rw[Ep h n b hl];refine⟨List.take_left' rfl,?_,?_,?_⟩
 · rw[cut,List.drop_left' (show magicJ.length=4 from rfl),List.take_left' hl]
 · rw[cut,show 14=4+10 by rfl,<-List.drop_drop,List.drop_left' (show magicJ.length=4 from rfl),List.drop_left' hl,List.take_left' (Ar 2 _)]
 · rw[cut,show 16=4+10+2 by rfl,<-List.drop_drop,<-List.drop_drop,List.drop_left' (show magicJ.length=4 from rfl),List.drop_left' hl,List.drop_left' (Ar 2 _),List.take_left' (Ar 4 _)]
theorem FW (s:List UInt8)(a b c d:Nat)(h:c+d<=b):cut (cut s a b) c d=cut s (a+c) d:=by
 unfold cut;rw[List.drop_take,List.drop_drop,List.take_take,Nat.min_eq_left (by omega)]
namespace Tx
theorem top_length (t:Tx):t.top.length=64:=LJ _ _ _ t.head_length
theorem rows_64 {t:Tx}(h:t.Ok):∀s∈t.rows,s.length=64:=by
 intro s hs
 rcases List.mem_cons.1 hs with rfl|hs
 · exact t.top_length
 · exact rest_64 h s hs
theorem rows_length {t:Tx}(h:t.Ok):t.rows.length=txSize t.plan.targets.length:=by
 rw[<-Es h.2 h.1.2.1];simp only[rows,rest,List.length_cons,List.length_append];have:=h.1.1;omega
theorem rest_length {t:Tx}(h:t.Ok):t.rest.length+1=txSize t.plan.targets.length:=by rw[<-rows_length h];rfl
theorem Fc {t:Tx}(h:t.Ok):cut t.top 12 2=be 2 t.plan.targets.length/\hn t.top=t.plan.targets.length/\hm t.top=65535-t.plan.targets.length:=by
 obtain⟨h1,h2,h3,h4⟩:=Dg t.head t.plan.targets.length t.rest.flatten t.head_length;have e:cut t.top 12 2=be 2 t.plan.targets.length:=by
  have:=FW t.top 4 10 8 2 (by omega);rw[<-this,top,h2,head,cut,List.drop_left' (Ar 8 _),List.take_of_length_le (by rw[Ar];omega)]
 have:=h.1.2.1;refine⟨e,?_,?_⟩
 · unfold hn;rw[e,DQ (by omega)]
 · unfold hm;rw[top,h3,DQ (by omega)]
theorem Qy {t:Tx}(h:t.Ok):hcount t.top=t.plan.targets.length:=by
 obtain⟨e,e1,e2⟩:=Fc h;have:=h.1.2.1;have h0:=List.length_pos_iff.2 h.2;have hp:magicJ.isPrefixOf t.top=true:=by
  rw[List.isPrefixOf_iff_prefix];exact⟨_,(Ep _ _ _ t.head_length).symm⟩
 unfold hcount;rw[e1,e2,if_pos ⟨t.top_length,hp,QF.2 ⟨h0,this⟩,by omega⟩]
theorem read_rows {t:Tx}(h:t.Ok)(hs:t.seq<18446744073709551616)(l:List (List UInt8)):txRead (t.rows++l)=(t,0):=by
 have hl:=rows_length h;have hc:=Qy h;have h0:=List.length_pos_iff.2 h.2;have a0:=h.1.2.1;obtain⟨c1,c2,c3,c4⟩:=Dg t.head t.plan.targets.length t.rest.flatten t.head_length;have hd:(t.rows++l).headD []=t.top:=rfl;have ht:(t.rows++l).take (txSize t.plan.targets.length)=t.rows:=List.take_left' hl;have hb:bodyOf (t.rows++l) (txSize t.plan.targets.length)=t.rest.flatten:=by unfold bodyOf;rw[ht];rfl
 have hp:parse (t.rows++l) t.plan.targets.length=t:=by
  obtain⟨z,hz⟩:=LP t.plan.targets a0;have a1:t.rest.flatten=nums t.plan.targets++(z++t.plan.data.flatten):=by rw[rest,List.flatten_append,hz,List.append_assoc]
  unfold parse;rw[hd,hb,ht];have e1:un (cut t.top 4 8)=t.seq:=by
   have:=FW t.top 4 10 0 8 (by omega);rw[<-this,top,c2,head,cut,List.drop_zero,List.take_left' (Ar 8 _),Cv];exact Nat.mod_eq_of_lt (by omega)
  have e2:((List.range t.plan.targets.length).map fun i=>(un (cut t.rest.flatten (4*i) 4):Int))=t.plan.targets:=by
   apply List.ext_getElem (by simp)
   intro i h1 h2;rw[List.getElem_map,List.getElem_range,a1,MF _ _ i h2,Cv];have:=(h.1.2.2.1 i h2).1;simp only[sectorOk,Bool.and_eq_true,decide_eq_true_eq]at this;rw[Nat.mod_eq_of_lt (by omega)];omega
  have e3:t.rows.drop (txSize t.plan.targets.length-t.plan.targets.length)=t.plan.data:=by
   have:=h.1.1;rw[<-Es h.2 a0,show(idxRows t.plan.targets).length+t.plan.targets.length+1-t.plan.targets.length=(idxRows t.plan.targets).length+1 by omega,rows,List.drop_succ_cons,rest,List.drop_left]
  rw[e1,e2,e3]
 unfold txRead;rw[hd,hc,ht,hb,hp,if_neg (by simp[rows]),if_neg (by omega),if_neg (by rw[List.length_append,hl];omega),if_neg,if_neg,if_pos]
 · unfold write;rw[if_pos h]
 · rw[top,c2,c4];simp
 · rintro⟨s,hs,hne⟩;exact hne (rows_64 h s hs)
end Tx
theorem MY (l:List (List UInt8))(n:Nat):(parse l n).plan.targets.length=n:=by simp[parse]
theorem EU {l:List (List UInt8)}(h:(txRead l).2=0):l≠[]/\hcount (l.headD [])≠0/\txSize (hcount (l.headD []))<=l.length/\(txRead l).1=parse l (hcount (l.headD []))/\(txRead l).1.Ok/\
 (txRead l).1.rows=l.take (txSize (hcount (l.headD [])))/\(txRead l).1.plan.targets.length=hcount (l.headD [])/\(txRead l).1.write=(l.take (txSize (hcount (l.headD []))),0):=by
 unfold txRead at h ⊢
 split at h
 · simp at h
 rename_i g1
 rw[if_neg g1]
 split at h
 · simp at h
 rename_i g2
 rw[if_neg g2]
 split at h
 · simp at h
 rename_i g3
 rw[if_neg g3]
 split at h
 · simp at h
 rename_i g4
 rw[if_neg g4]
 split at h
 · simp at h
 rename_i g5
 rw[if_neg g5]
 split at h
 rotate_left
 · simp at h
 rename_i g6
 rw[if_pos g6];refine⟨g1,g2,by omega,rfl,?_⟩;have g7:=g6;unfold Tx.write at g6
 split at g6
 · rename_i g
   exact⟨g,(Prod.mk.inj g6).1,MY _ _,g7⟩
 · have:=(Prod.mk.inj g6).2;simp at this
theorem Lx:∀(l:List (List UInt8))(i j:Nat)(b:UInt8),(∀s∈l,s.length=64)->(hi:i<l.length)->j<64->(l.set i (l[i].set j b)).flatten=l.flatten.set (64*i+j) b:=by
 intro l
 induction l with
 |nil=>intro i j b _ hi;simp at hi
 |cons s l ih=>
  intro i j b h hi hj;have hs:=h s List.mem_cons_self;cases i with
  |zero=>
   simp only[List.set_cons_zero,List.getElem_cons_zero,List.flatten_cons,Nat.mul_zero,Nat.zero_add];rw[List.set_append_left _ _ (by omega)]
  |succ i=>
   simp only[List.set_cons_succ,List.getElem_cons_succ,List.flatten_cons];rw[ih i j b (fun s hs=>h s (List.mem_cons_of_mem _ hs)) (by simpa using hi) hj,List.set_append_right _ _ (by omega)]
   congr 2;omega
theorem Lw:∀(l:List (List UInt8))(i j:Nat),(∀s∈l,s.length=64)->(hi:i<l.length)->j<64->l.flatten[64*i+j]? =l[i][j]? :=by
 intro l
 induction l with
 |nil=>intro i j _ hi;simp at hi
 |cons s l ih=>
  intro i j h hi hj;have hs:=h s List.mem_cons_self;cases i with
  |zero=>
   simp only[List.getElem_cons_zero,List.flatten_cons,Nat.mul_zero,Nat.zero_add];rw[List.getElem?_append_left (by omega)]
  |succ i=>
   simp only[List.getElem_cons_succ,List.flatten_cons];rw[List.getElem?_append_right (by omega),<-ih i j (fun s hs=>h s (List.mem_cons_of_mem _ hs)) (by simpa using hi) hj]
   congr 1;omega
theorem C7 {s:List UInt8}{j o n:Nat}{b:UInt8}(h:j<o\/o+n<=j):cut (s.set j b) o n=cut s o n:=by
 apply List.ext_getElem?
 intro k;rw[BD,BD]
 split
 · rw[List.getElem?_set_ne (by omega)]
 · rfl
theorem Kl {s:List UInt8}{j o n:Nat}{b:UInt8}(h:o<=j)(hj:j<o+n):cut (s.set j b) o n=(cut s o n).set (j-o) b:=by
 apply List.ext_getElem?
 intro k;rw[BD];by_cases hk:k<n
 · rw[if_pos hk];by_cases e:o+k=j
   · subst e;rw[show o+k-o=k by omega];by_cases hl:o+k<s.length
     · rw[List.getElem?_set_self hl,List.getElem?_set_self (by simp[cut];omega)]
     · rw[List.getElem?_eq_none (by simp;omega),List.getElem?_eq_none (by simp[cut];omega)]
   · rw[List.getElem?_set_ne (by omega),List.getElem?_set_ne (by omega),BD,if_pos hk]
 · rw[if_neg hk,List.getElem?_eq_none];rw[List.length_set];simp[cut];omega
theorem DV {a b:Nat}(ha:a<65536)(hb:b<65536)(h:be 2 a=be 2 b):a=b:=by
 rw[<-DQ ha,h,DQ hb]
theorem Tx.byte {t:Tx}(h:t.Ok){i j:Nat}(hi:i<t.rows.length)(hj:j<64){b:UInt8}(hb:t.rows[i][j]?≠some b):(txRead (t.rows.set i (t.rows[i].set j b))).2≠0:=by
 intro h0;obtain⟨r1,r2,r3,r4,r5,r6,r7,r8⟩:=EU h0;generalize (txRead (t.rows.set i (t.rows[i].set j b))).1=u at*;have hl:=rows_length h;have ab:=rows_length r5;rw[List.length_set,hl,<-r7]at r3;rw[<-r7]at r6;have ac:=h.1.2.1;have ad:=r5.1.2.1;obtain⟨a1,a2,a3,a4⟩:=Dg t.head t.plan.targets.length t.rest.flatten t.head_length;obtain⟨b1,b2,b3,b4⟩:=Dg u.head u.plan.targets.length u.rest.flatten u.head_length;obtain⟨ta,tb,tc⟩:=Fc h;obtain⟨ua,ub,uc⟩:=Fc r5;have aa:(t.plan.targets.length=u.plan.targets.length)->u.rows=t.rows.set i (t.rows[i].set j b):=by
  intro e;rw[r6,<-e,List.take_of_length_le (by rw[List.length_set,hl];exact Nat.le_refl _)]
 cases i with
 |zero=>
  have a0:u.top=t.top.set j b:=by
   have e:=congrArg (·[0]?) r6;simp only[rows,List.set_cons_zero,List.getElem_cons_zero]at e;rw[List.getElem?_take_of_lt (by rw[<-ab];simp[rows])]at e;simpa using e
  have hn:t.plan.targets.length=u.plan.targets.length:=by
   by_cases hj2:12<=j/\j<14
   · have e:be 2 (65535-t.plan.targets.length)=be 2 (65535-u.plan.targets.length):=by
      rw[<-a3,<-b3];show cut t.top 14 2=cut u.top 14 2;rw[a0,C7 (by omega)]
     have:=DV (by omega) (by omega) e;omega
   · have e:be 2 t.plan.targets.length=be 2 u.plan.targets.length:=by
      rw[<-ta,<-ua,a0,C7 (by omega)]
     exact DV (by omega) (by omega) e
  have hr:=aa hn;have a5:u.rest=t.rest:=by
   simp only[rows,List.set_cons_zero,List.cons.injEq]at hr;exact hr.2
  by_cases hj4:4<=j/\j<14
  · have hH:u.head=t.head.set (j-4) b:=by
     rw[<-b2,<-a2];show cut u.top 4 10=(cut t.top 4 10).set (j-4) b;rw[a0,Kl (by omega) (by omega)]
    have hs:be 4 (crcOf (t.head++t.rest.flatten))=be 4 (crcOf (u.head++u.rest.flatten)):=by
     rw[<-a4,<-b4];show cut t.top 16 4=cut u.top 16 4;rw[a0,C7 (by omega)]
    have hs:=Fs (A6 _ _) (A6 _ _) hs;rw[a5,hH,<-List.set_append_left _ _ (by rw[head_length];omega)]at hs;have a8:j-4<(t.head++t.rest.flatten).length:=by rw[List.length_append,head_length];omega
    have:=FU a8 hs;apply hb
    rw[List.getElem_append_left (by rw[head_length];omega)]at this;rw[<-this];show t.top[j]? =_;rw[<-List.getElem?_eq_getElem]
    conv=>rhs;rw[<-a2,BD,if_pos (by omega),show 4+(j-4)=j by omega]
    rfl
  · have hH:u.head=t.head:=by
     rw[<-b2,<-a2];show cut u.top 4 10=cut t.top 4 10;rw[a0,C7 (by omega)]
    have:u.top=t.top:=by unfold top;rw[hH,a5,hn]
    apply hb
    show t.top[j]? =some b;rw[<-this,a0,List.getElem?_set_self (by rw[top_length];exact hj)]
 |succ i=>
  have a0:u.top=t.top:=by
   have e:=congrArg (·[0]?) r6;rw[List.getElem?_take_of_lt (by rw[<-ab];simp[rows])]at e;simpa[rows]using e
  have hn:t.plan.targets.length=u.plan.targets.length:=by
   have e:be 2 t.plan.targets.length=be 2 u.plan.targets.length:=by rw[<-ta,<-ua,a0]
   exact DV (by omega) (by omega) e
  have hr:=aa hn;have a7:i<t.rest.length:=by simpa[rows]using hi
  have a5:u.rest=t.rest.set i (t.rest[i].set j b):=by
   simp only[rows,List.set_cons_succ,List.cons.injEq,List.getElem_cons_succ]at hr;exact hr.2
  have hH:u.head=t.head:=by
   rw[<-b2,<-a2];show cut u.top 4 10=cut t.top 4 10;rw[a0]
  have hs:be 4 (crcOf (t.head++t.rest.flatten))=be 4 (crcOf (u.head++u.rest.flatten)):=by
   rw[<-a4,<-b4];show cut t.top 16 4=cut u.top 16 4;rw[a0]
  have hs:=Fs (A6 _ _) (A6 _ _) hs;have a6:=rest_64 h;rw[a5,hH,Lx _ _ _ _ a6 a7 hj]at hs;have a9:t.rest.flatten[64*i+j]? =t.rest[i][j]? :=Lw _ _ _ a6 a7 hj;have a8:64*i+j<t.rest.flatten.length:=by
   rcases Nat.lt_or_ge (64*i+j) t.rest.flatten.length with h'|h'
   · exact h'
   · rw[List.getElem?_eq_none h',eq_comm,List.getElem?_eq_none_iff]at a9;have:=a6 _ (List.getElem_mem a7);omega
  have e2:t.head++t.rest.flatten.set (64*i+j) b=(t.head++t.rest.flatten).set (10+(64*i+j)) b:=by
   rw[List.set_append_right _ _ (by rw[head_length];omega),head_length];congr 2;omega
  rw[e2]at hs;have:=FU (by rw[List.length_append,head_length];omega) hs;apply hb
  show t.rest[i][j]? =some b;rw[<-a9,<-this,List.getElem_append_right (by rw[head_length];omega)];simp only[head_length];rw[List.getElem?_eq_getElem a8]
  congr 2;omega
theorem Tx.same_self (t:Tx):t.same t=true:=by simp[Tx.same,Pn.same_self]
end
section
def wrSt (l:List Int)(i:Nat):List (List UInt8)×List UInt8:=
 if i=l.length then(idxRows l,[])else if i<16 then([],nums (l.take i))else([At (nums (l.take 16))],nums ((l.take i).drop 16))
theorem Rb {l:List Int}(h:l≠[]):wrSt l 0=([],[]):=by
 have:=List.length_pos_iff.2 h;unfold wrSt;rw[if_neg (by omega),if_pos (by omega)];rfl
theorem Jg (l:List Int):wrSt l l.length=(idxRows l,[]):=by unfold wrSt;rw[if_pos rfl]
theorem MH (l:List Int)(i:Nat)(h:i<l.length):nums (l.take (i+1))=nums (l.take i)++be 4 l[i].toNat:=by
 rw[List.take_add_one,EE,List.getElem?_eq_getElem h];simp[nums]
theorem Ra {l:List Int}{i:Nat}(h:i<l.length)(h24:l.length<=24):
 wrSt l (i+1)=if i+1=l.length\/i%16=15 then((wrSt l i).1++[At ((wrSt l i).2++be 4 l[i].toNat)],[])else((wrSt l i).1,(wrSt l i).2++be 4 l[i].toNat):=by
 have hs:wrSt l i=if i<16 then([],nums (l.take i))else([At (nums (l.take 16))],nums ((l.take i).drop 16)):=by unfold wrSt;rw[if_neg (by omega)]
 have ht:=MH l i h;have hd:16<=i->nums ((l.take (i+1)).drop 16)=nums ((l.take i).drop 16)++be 4 l[i].toNat:=fun h16=>by
  rw[List.take_add_one,List.drop_append_of_le_length (by rw[List.length_take];omega),EE,List.getElem?_eq_getElem h];simp[nums]
 rw[hs];by_cases h1:i+1=l.length
 · rw[if_pos (.inl h1)];have e:wrSt l (i+1)=(idxRows l,[]):=by rw[h1];exact Jg l
   rw[e];unfold idxRows;by_cases h2:i<16
   · rw[if_pos (by omega),if_pos h2];simp only[List.nil_append];rw[<-ht,List.take_of_length_le (by omega)]
   · rw[if_neg (by omega),if_neg h2];simp only[List.singleton_append];rw[<-hd (by omega),show List.take (i+1) l=l from List.take_of_length_le (by omega)]
 · have e:wrSt l (i+1)=if i+1<16 then([],nums (l.take (i+1)))else([At (nums (l.take 16))],nums ((l.take (i+1)).drop 16)):=by unfold wrSt;rw[if_neg h1]
   rw[e];by_cases h3:i<15
   · rw[if_pos (by omega),if_neg (by omega),if_pos (by omega),ht]
   · by_cases h4:i=15
     · rw[if_neg (by omega),if_pos (.inr (by omega)),if_pos (by omega)];simp only[List.nil_append];rw[<-ht];subst h4;rw[show((l.take (15+1)).drop 16)=[] by rw[List.drop_eq_nil_iff,List.length_take];omega];rfl
     · rw[if_neg (by omega),if_neg (by omega),if_neg (by omega),hd (by omega)]
theorem Q8 {l:List Int}{i:Nat}(h:i<l.length)(h24:l.length<=24):(wrSt l i).2.length<=60/\(wrSt l i).1.length<=1:=by
 unfold wrSt;rw[if_neg (by omega)]
 split
 · simp only[BI,List.length_take,List.length_nil];omega
 · simp only[BI,List.length_take,List.length_drop,List.length_singleton];omega
theorem Kc {s:Nat}(hs:s<4294967296)(l:List (List UInt8))(i:Nat)(h:i<l.length):crcMore (crcMore s (l.take i).flatten) l[i]=crcMore s (l.take (i+1)).flatten:=by
 rw[C3 hs,List.take_succ_eq_append_getElem h,List.flatten_append];simp
theorem DT (t:Tx):t.write.1.length<=27:=by
 unfold Tx.write
 split
 · rename_i h
   show t.rows.length<=27;rw[Tx.rows_length h];have:=h.1.2.1;unfold txSize;split<;>omega
 · exact Nat.zero_le _
theorem OO {l:List (List UInt8)}(h:(txRead l).2≠0):(txRead l).1=Tx.zero:=by
 unfold txRead at h ⊢
 split
 · rfl
 split
 · rfl
 split
 · rfl
 split
 · rfl
 split
 · rfl
 rename_i h1 h2 h3 h4 h5
 rw[if_neg h1,if_neg h2,if_neg h3,if_neg h4,if_neg h5]at h
 split
 · rename_i h6;rw[if_pos h6]at h;exact absurd rfl h
 · rfl
theorem read_len (l:List (List UInt8)):(txRead l).1.plan.targets.length<=24/\(txRead l).1.plan.data.length<=24:=by
 by_cases h:(txRead l).2=0
 · obtain⟨_,_,_,_,h1,_⟩:=EU h;have:=h1.1.1;have:=h1.1.2.1;omega
 · rw[OO h];exact⟨Nat.zero_le _,Nat.zero_le _⟩
namespace Pn
def none:Pn:=⟨[],[]⟩
theorem none_fit:none.Fit:=⟨rfl,by simp[none],fun i h=>by simp[none]at h,fun i h=>by simp[none]at h⟩
def both (D:Dk)(L:Pn)(k:Nat):Int×Int:=
 if(cntGet D L k).2≠0 then(0,(cntGet D L k).2)else if(cntGet D none k).2≠0 then(0,(cntGet D none k).2)else((cntGet D L k).1+(cntGet D none k).1,0)
def stopsAt (D:Dk)(L:Pn)(k:Nat):Bool:=decide ((both D L k).2≠0)||decide ((both D L k).1=0)
def alFind (D:Dk)(L:Pn)(h:Int):Int×Int:=
 match (List.range h.toNat).find? (stopsAt D L)with
 | .none=>(0,17)
 |some k=>if(both D L k).2≠0 then(0,(both D L k).2)else(k,0)
def alTake (D:Dk)(L:Pn)(h:Int):Pn×Int×Int:=
 if(alFind D L h).2≠0 then(L,0,(alFind D L h).2)else if(cntAdd D L (alFind D L h).1 1).2≠0 then(L,0,(cntAdd D L (alFind D L h).1 1).2)else((cntAdd D L (alFind D L h).1 1).1,(alFind D L h).1,0)
variable {D:Dk} {L:Pn}
theorem Gn {p:Nat->Bool}{n k:Nat}:(List.range n).find? p=some k↔k<n/\p k=true/\∀j,j<k->p j=false:=by
 rw[List.find?_range_eq_some];simp only[List.mem_range,Bool.not_eq_true'];constructor
 · rintro⟨a,b,c⟩;exact⟨b,a,fun j hj=>c j hj⟩
 · rintro⟨a,b,c⟩;exact⟨b,a,fun j hj=>c j hj⟩
theorem Lr {p:Nat->Bool}{n:Nat}:(List.range n).find? p=.none↔∀j,j<n->p j=false:=by
 rw[List.find?_eq_none];simp
theorem alFind_hit {h:Int}{k:Nat}(hk:(k:Int)<h)(hs:stopsAt D L k=true)(hn:∀j,j<k->stopsAt D L j=false):alFind D L h=if(both D L k).2≠0 then(0,(both D L k).2)else((k:Int),0):=by
 have:=Gn.2 ⟨show k<h.toNat by omega,hs,hn⟩;rw[alFind,this]
theorem alFind_miss {h:Int}(hn:∀j:Nat,(j:Int)<h->stopsAt D L j=false):alFind D L h=(0,17):=by
 have:=Lr.2 (fun(j:Nat)(hj:j<h.toNat)=>hn j (by omega));rw[alFind,this]
theorem JK {k:Nat}(h:(both D L k).2=0):(cntGet D L k).2=0/\(cntGet D none k).2=0/\(both D L k).1=(cntGet D L k).1+(cntGet D none k).1:=by
 revert h
 rw[both]
 split
 · rename_i h;intro h2;exact absurd h2 h
 · rename_i h1
   split
   · rename_i h;intro h2;exact absurd h2 h
   · rename_i h2
     intro _;exact⟨by simpa using h1,by simpa using h2,rfl⟩
theorem alFind_cases (D:Dk)(L:Pn)(h:Int):
 (∃k:Nat,(k:Int)<h/\alFind D L h=((k:Int),0)/\(cntGet D L k).2=0/\(cntGet D none k).2=0/\(cntGet D L k).1=0/\(cntGet D none k).1=0/\∀j,j<k->stopsAt D L j=false)\/((alFind D L h).2≠0/\(alFind D L h).1=0):=by
 cases hf:(List.range h.toNat).find? (stopsAt D L)with
 |none=>right;rw[alFind,hf];simp
 |some k=>
  obtain⟨h1,h2,h3⟩:=Gn.1 hf;have e:alFind D L h=if(both D L k).2≠0 then(0,(both D L k).2)else((k:Int),0):=by rw[alFind,hf]
  by_cases h4:(both D L k).2=0
  · left
    rw[if_neg (by rw[h4];simp)]at e;obtain⟨a,b,c⟩:=JK h4;have hz:(both D L k).1=0:=by
     simp only[stopsAt,Bool.or_eq_true,decide_eq_true_eq]at h2
     rcases h2 with h2|h2
     · exact absurd h4 h2
     · exact h2
    have i1:=cntGet_le D L k;have i2:=cntGet_le D none k;exact⟨k,by omega,e,a,b,by omega,by omega,h3⟩
  · right
    rw[if_pos h4]at e;rw[e];exact⟨h4,rfl⟩
end Pn
end
section
namespace Pn
variable {D:Dk} {L X:Pn}
theorem Fj (D:Dk)(L:Pn)(h:Int):(∃k:Nat,∃X,(k:Int)<h/\alTake D L h=(X,(k:Int),0)/\cntGet D L k=(0,0)/\cntGet D none k=(0,0)/\cntAdd D L k 1=(X,0))\/((alTake D L h).2.2≠0/\(alTake D L h).1=L/\(alTake D L h).2.1=0):=by
 rcases alFind_cases D L h with ⟨k,h1,h2,h3,h4,h5,h6,_⟩|⟨h1,h2⟩
 · by_cases h7:(cntAdd D L k 1).2=0
   · left
     refine⟨k,(cntAdd D L k 1).1,h1,?_,Prod.ext h5 h3,Prod.ext h6 h4,Prod.ext rfl h7⟩;rw[alTake,h2,if_neg (by simp),if_neg (by rw[h7];simp)]
   · right
     rw[alTake,h2,if_neg (by simp),if_pos h7];exact⟨h7,rfl,rfl⟩
 · right
   rw[alTake,if_pos h1];exact⟨h1,rfl,rfl⟩
end Pn
end
section
namespace Dk
def blank (n:Nat):Dk:=⟨List.replicate (64*n) 0,[],-1,false,[]⟩
theorem fresh_blank {n:Nat}(h1:1<=n)(h2:n<=1024):Dk.fresh n=(blank n,0):=by
 rw[fresh,if_neg (by omega),Int.toNat_natCast];rfl
theorem blank_sz (n:Nat):(blank n).sz=n:=by unfold sz blank;simp
theorem blank_fit {n:Nat}(h1:1<=n)(h2:n<=1024):(blank n).fit=true:=by
 unfold fit;rw[blank_sz];simp[blank,incr,h1,h2]
end Dk
end
section
theorem CT:∀(l:List UInt8),be l.length (un l)=l:=by
 intro l
 induction l with
 |nil=>rfl
 |cons c l ih=>
  have e:un (c::l)=c.toNat*256^l.length+un l:=by
   have:=CQ [c] l;simpa[un]using this
  have hl:=By l;show be (l.length+1) (un (c::l))=_;rw[be,e];have h1:(c.toNat*256^l.length+un l)/256^l.length=c.toNat:=by
   rw[Nat.mul_comm,Nat.mul_add_div (Nat.pow_pos (by omega)),Nat.div_eq_of_lt hl];omega
  have h2:be l.length (c.toNat*256^l.length+un l)=be l.length (un l):=by
   rw[DW,Nat.mul_comm,Nat.mul_add_mod,Nat.mod_eq_of_lt hl]
  rw[h1,h2,ih];simp
theorem Ft (a b n:Nat):be (a+b) n=be a (n/256^b)++be b n:=by
 have h:un (be a (n/256^b)++be b n)=n%256^(a+b):=by
  rw[CQ,Cv,Cv,Ar,Nat.pow_add,Nat.mul_comm (256^a),Nat.mod_mul,Nat.mul_comm,Nat.add_comm]
 have h2:=CT (be a (n/256^b)++be b n);rw[h,List.length_append,Ar,Ar,<-DW]at h2;exact h2
namespace Pn
def entOk (K A:Int):Bool:=if K=1 then decide (0<=A)&&decide (A<256)else(decide (K=0)||decide (K=2))&&decide (A=0)
theorem Lb {K A:Int}:entOk K A=true↔(K=1/\0<=A/\A<256)\/((K=0\/K=2)/\A=0):=by
 unfold entOk
 split
 · rename_i h;subst h;simp
 · rename_i h;simp[h]
theorem entOk_small {K A:Int}(h:entOk K A=true):0<=K/\K<=2/\0<=A/\A<256:=by
 rcases Lb.1 h with ⟨a,b,c⟩|⟨a|a,b⟩<;>omega
def refused (t i:Int):Prop:=(t<0\/256<=t)\/(i<0\/16<=i)
instance (t i:Int):Decidable (refused t i):=inferInstanceAs (Decidable (_\/_))
def entOf (s:List UInt8):(Int×Int)×Int:=if entOk ((un s/72057594037927936:Nat):Int) ((un s%72057594037927936:Nat):Int)then((((un s/72057594037927936:Nat):Int),((un s%72057594037927936:Nat):Int)),0)else((0,0),14)
def entBytes (K A:Int):List UInt8:=be 8 (K.toNat*72057594037927936+A.toNat)
theorem entBytes_length (K A:Int):(entBytes K A).length=8:=Ar _ _
def entAt (t i:Int):Int:=96+2*t+i/8
def entOff (i:Int):Int:=8*(i%8)
def tabGet (D:Dk)(L:Pn)(t i:Int):(Int×Int)×Int:=
 if refused t i then((0,0),10)else if(look D L (entAt t i)).2≠0 then((0,0),(look D L (entAt t i)).2)else entOf (cut (look D L (entAt t i)).1 (entOff i).toNat 8)
def tabSet (D:Dk)(L:Pn)(t i K A:Int):Pn×Int:=
 if refused t i then(L,10)else if entOk K A=false then(L,23)else patch D L (entAt t i) (entOff i) (entBytes K A)
def set2 (L:Pn)(t:Int)(half:Pn->Int->List UInt8×Int):Pn×Int:=
 if(half L 0).2≠0 then(L,(half L 0).2)else if(L.set (96+2*t) (half L 0).1).2≠0 then(L,(L.set (96+2*t) (half L 0).1).2)
 else if(half (L.set (96+2*t) (half L 0).1).1 1).2≠0 then(L,(half (L.set (96+2*t) (half L 0).1).1 1).2)
 else if((L.set (96+2*t) (half L 0).1).1.set (96+2*t+1) (half (L.set (96+2*t) (half L 0).1).1 1).1).2≠0 then(L,((L.set (96+2*t) (half L 0).1).1.set (96+2*t+1) (half (L.set (96+2*t) (half L 0).1).1 1).1).2)
 else(((L.set (96+2*t) (half L 0).1).1.set (96+2*t+1) (half (L.set (96+2*t) (half L 0).1).1 1).1).1,0)
def tabBlank (L:Pn)(t:Int):Pn×Int:=if t<0\/256<=t then(L,10)else set2 L t fun _ _=>(List.replicate 64 0,0)
def tabCopy (D:Dk)(L:Pn)(f t:Int):Pn×Int:=if(f<0\/256<=f)\/(t<0\/256<=t)then(L,10)else set2 L t fun Q i=>look D Q (96+2*f+i)
def tabFind (D:Dk)(L:Pn)(l1 g:Int):(Int×Int)×Int:=
 if g<0\/64<=g then((0,0),10)else if(tabGet D L l1 (g/16)).2≠0\/(tabGet D L l1 (g/16)).1.1=0 then((0,0),(tabGet D L l1 (g/16)).2)
 else if(tabGet D L l1 (g/16)).1.1=2 then((0,0),14)else tabGet D L (tabGet D L l1 (g/16)).1.2 (g%16)
theorem K9 {s:List UInt8}(h:(entOf s).2=0):entOk (entOf s).1.1 (entOf s).1.2=true:=by
 rw[entOf]at h ⊢
 split
 · rename_i h1;exact h1
 · rename_i h1;rw[if_neg h1]at h;simp at h
theorem K7 {K A:Int}(h:entOk K A=true):entOf (entBytes K A)=((K,A),0):=by
 obtain⟨h1,h2,h3,h4⟩:=entOk_small h;obtain⟨k,rfl⟩:=Int.eq_ofNat_of_zero_le h1;obtain⟨a,rfl⟩:=Int.eq_ofNat_of_zero_le h3;have e:un (entBytes (k:Int) (a:Int))=k*72057594037927936+a:=by
  rw[entBytes,Cv,Int.toNat_natCast,Int.toNat_natCast,Nat.mod_eq_of_lt];have:(256:Nat)^8=18446744073709551616:=by decide
  omega
 rw[entOf,e];have e1:(k*72057594037927936+a)/72057594037927936=k:=by omega
 have e2:(k*72057594037927936+a)%72057594037927936=a:=by omega
 rw[e1,e2,if_pos h]
theorem entOf_ref {s:List UInt8}(hl:s.length=8):
 entOf s=if entOk (un (s.take 1):Nat) (un (s.drop 4):Nat)=true/\(be 1 (un (s.take 1))++[0,0,0])++be 4 (un (s.drop 4))=s then((((un (s.take 1):Nat):Int),((un (s.drop 4):Nat):Int)),0)else((0,0),14):=by
 have e1:un s=un (s.take 1)*256^7+un (s.drop 1):=by
  have:=CQ (s.take 1) (s.drop 1);rw[List.take_append_drop,List.length_drop,hl]at this;exact this
 have b1:=By (s.take 1);have b2:=By (s.drop 1);have b3:=By (s.drop 4);have b4:=By ((s.drop 1).take 3);have l1:(s.take 1).length=1:=by simp;omega
 have l2:(s.drop 1).length=7:=by simp;omega
 have l3:(s.drop 4).length=4:=by simp;omega
 have l4:((s.drop 1).take 3).length=3:=by simp;omega
 rw[l1]at b1;rw[l2]at b2;rw[l3]at b3;rw[l4]at b4;have e2:un (s.drop 1)=un ((s.drop 1).take 3)*256^4+un (s.drop 4):=by
  have:=CQ ((s.drop 1).take 3) ((s.drop 1).drop 3);rw[List.take_append_drop,List.drop_drop]at this;rw[this,show(s.drop (1+3)).length=4 from l3]
 have p7:(256:Nat)^7=72057594037927936:=by decide
 have p4:(256:Nat)^4=4294967296:=by decide
 have p3:(256:Nat)^3=16777216:=by decide
 rw[p7]at e1 b2;rw[p4]at e2 b3;rw[p3]at b4;have f1:un s/72057594037927936=un (s.take 1):=by omega
 have f2:un s%72057594037927936=un (s.drop 1):=by omega
 have a0:(be 1 (un (s.take 1))++[0,0,0])++be 4 (un (s.drop 4))=s↔un ((s.drop 1).take 3)=0:=by
  have s1:=CT (s.take 1);have s4:=CT (s.drop 4);have s3:=CT ((s.drop 1).take 3);rw[l1]at s1;rw[l3]at s4;rw[l4]at s3;rw[s1,s4];have hs:s=s.take 1++(s.drop 1).take 3++s.drop 4:=by
   have h1:=List.take_append_drop 1 s;have h2:=List.take_append_drop 3 (s.drop 1);rw[List.drop_drop]at h2;rw[List.append_assoc,h2,h1]
  constructor
  · intro h;have:(s.take 1++[0,0,0])++s.drop 4=s.take 1++(s.drop 1).take 3++s.drop 4:=h.trans hs;have:=List.append_cancel_left (List.append_cancel_right this);rw[<-this];rfl
  · intro h;rw[h]at s3;have:[0,0,0]=(s.drop 1).take 3:=s3;rw[this];exact hs.symm
 rw[entOf,f1,f2];by_cases hz:un ((s.drop 1).take 3)=0
 · have g:un (s.drop 1)=un (s.drop 4):=by omega
   rw[g];by_cases ho:entOk (un (s.take 1):Nat) (un (s.drop 4):Nat)=true
   · rw[if_pos ho,if_pos ⟨ho,a0.2 hz⟩]
   · rw[if_neg ho,if_neg (fun h=>ho h.1)]
 · rw[if_neg (fun h=>by have:=(entOk_small h).2.2.2;omega),if_neg (fun h=>hz (a0.1 h.2))]
end Pn
end
section
namespace Pn
variable {D:Dk} {L X:Pn}
theorem tabGet_refused {t i:Int}(h:refused t i):tabGet D L t i=((0,0),10):=by rw[tabGet,if_pos h]
theorem Qh {t i:Int}(h:(tabGet D L t i).2=0):entOk (tabGet D L t i).1.1 (tabGet D L t i).1.2=true:=by
 revert h
 rw[tabGet]
 split
 · intro h;simp at h
 · split
   · rename_i h;intro h2;exact absurd h2 h
   · exact K9
theorem tabGet_err {t i:Int}(h:(tabGet D L t i).2≠0):(tabGet D L t i).1=(0,0):=by
 revert h
 rw[tabGet]
 split
 · intro _;rfl
 · split
   · intro _;rfl
   · rw[entOf];split
     · intro h;exact absurd rfl h
     · intro _;rfl
theorem tabGet_small (D:Dk)(L:Pn)(t i:Int):0<=(tabGet D L t i).1.1/\(tabGet D L t i).1.1<=2/\0<=(tabGet D L t i).1.2/\(tabGet D L t i).1.2<256:=by
 by_cases h:(tabGet D L t i).2=0
 · exact entOk_small (Qh h)
 · rw[tabGet_err h];simp
theorem Fa {E:Dk}{M:Pn}{t u i:Int}(ht:0<=t/\t<256)(hu:0<=u/\u<256)(h:0<=i->i<16->look D L (entAt t i)=look E M (entAt u i)):tabGet D L t i=tabGet E M u i:=by
 by_cases hi:i<0\/16<=i
 · rw[tabGet_refused (.inr hi),tabGet_refused (.inr hi)]
 · have r1:¬refused t i:=fun h=>by unfold refused at h;omega
   have r2:¬refused u i:=fun h=>by unfold refused at h;omega
   rw[tabGet,tabGet,if_neg r1,if_neg r2,h (by omega) (by omega)]
theorem Ql {t i K A:Int}(h:(tabSet D L t i K A).2≠0):(tabSet D L t i K A).1=L:=by
 revert h
 rw[tabSet]
 split
 · intro _;rfl
 · split
   · intro _;rfl
   · exact G7
theorem Qm {t i K A:Int}(hD:D.fit=true)(hL:L.Fit)(h:tabSet D L t i K A=(X,0)):
 X.Fit/\tabGet D X t i=((K,A),0)/\∀o k,(o≠t\/k≠i)->tabGet D X o k=tabGet D L o k:=by
 rw[tabSet]at h
 split at h
 · injection h with _ h;simp at h
 · rename_i hr
   split at h
   · injection h with _ h;simp at h
   · rename_i he
     have he:entOk K A=true:=by simpa using he
     have a1:(0<=t/\t<256)/\0<=i/\i<16:=by unfold refused at hr;omega
     obtain⟨p1,p2,p3,p4⟩:=G6 hD hL h;obtain⟨q1,q2,q3,_⟩:=EJ hD hL h;have hl:=look_full hD hL q1;rw[entBytes_length]at q3;refine⟨p1,?_,fun o k hok=>?_⟩
     · rw[tabGet,if_neg hr,p2];simp only[ne_eq,not_true_eq_false,if_false];have e:=FX (s:=(look D L (entAt t i)).1) (t:=entBytes K A) (o:=(entOff i).toNat) (by rw[entBytes_length,hl];exact q3);rw[entBytes_length]at e;rw[e,K7 he]
     · by_cases hk:refused o k
       · rw[tabGet_refused hk,tabGet_refused hk]
       · rw[tabGet,tabGet,if_neg hk,if_neg hk];have a0:(0<=o/\o<256)/\0<=k/\k<16:=by unfold refused at hk;omega
         by_cases hs:entAt o k=entAt t i
         · rw[hs,p2,q1];simp only[ne_eq,not_true_eq_false,if_false];rw[FY (by rw[entBytes_length,hl];exact q3) (by rw[entBytes_length];unfold entOff at q3 ⊢;unfold entAt at hs;omega)]
         · rw[p3 _ hs]
theorem IA {t:Int}{half:Pn->Int->List UInt8×Int}(h:(set2 L t half).2≠0):(set2 L t half).1=L:=by
 revert h
 rw[set2]
 split
 · intro _;rfl
 · split
   · intro _;rfl
   · split
     · intro _;rfl
     · split
       · intro _;rfl
       · intro h;exact absurd rfl h
theorem IB {t:Int}{half:Pn->Int->List UInt8×Int}(hL:L.Fit)(h:set2 L t half=(X,0)):
 ∃s0 s1 M,half L 0=(s0,0)/\L.set (96+2*t) s0=(M,0)/\half M 1=(s1,0)/\M.set (96+2*t+1) s1=(X,0)/\M.Fit/\X.Fit/\
  ∀D,look D X (96+2*t)=(s0,0)/\look D X (96+2*t+1)=(s1,0)/\∀o,o≠96+2*t->o≠96+2*t+1->look D X o=look D L o:=by
 rw[set2]at h
 split at h
 · rename_i h0;injection h with _ h;exact absurd h h0
 · rename_i h0
   split at h
   · rename_i h1;injection h with _ h;exact absurd h h1
   · rename_i h1
     split at h
     · rename_i h2;injection h with _ h;exact absurd h h2
     · rename_i h2
       split at h
       · rename_i h3;injection h with _ h;exact absurd h h3
       · rename_i h3
         injection h with h _
         have h0:(half L 0).2=0:=by simpa using h0
         have h1:(L.set (96+2*t) (half L 0).1).2=0:=by simpa using h1
         have h2:(half (L.set (96+2*t) (half L 0).1).1 1).2=0:=by simpa using h2
         have h3:((L.set (96+2*t) (half L 0).1).1.set (96+2*t+1) (half (L.set (96+2*t) (half L 0).1).1 1).1).2=0:=by simpa using h3
         have f1:=set_fit hL (96+2*t) (half L 0).1;have f2:=set_fit f1 (96+2*t+1) (half (L.set (96+2*t) (half L 0).1).1 1).1;refine⟨_,_,_,Prod.ext rfl h0,Prod.ext rfl h1,Prod.ext rfl h2,Prod.ext h h3,f1,by rw[<-h];exact f2,fun D=>?_⟩;obtain⟨a1,a2⟩:=Dl hL h1 D;obtain⟨b1,b2⟩:=Dl f1 h3 D;rw[h]at b1 b2;exact⟨by rw[b2 _ (by omega),a1],b1,fun o ho ho'=>by rw[b2 o ho',a2 o ho]⟩
theorem Qd {t:Int}(h:(tabBlank L t).2≠0):(tabBlank L t).1=L:=by
 revert h
 rw[tabBlank]
 split
 · intro _;rfl
 · exact IA
theorem Qf {f t:Int}(h:(tabCopy D L f t).2≠0):(tabCopy D L f t).1=L:=by
 revert h
 rw[tabCopy]
 split
 · intro _;rfl
 · exact IA
theorem La:entOf (List.replicate 8 0)=((0,0),0):=by decide
theorem Qe {t:Int}(hL:L.Fit)(h:tabBlank L t=(X,0)):X.Fit/\(0<=t/\t<256)/\(∀i,0<=i->i<16->tabGet D X t i=((0,0),0))/\∀o k,o≠t->tabGet D X o k=tabGet D L o k:=by
 rw[tabBlank]at h
 split at h
 · injection h with _ h;simp at h
 · rename_i ht
   obtain⟨s0,s1,M,h1,h2,h3,h4,_,hX,hs⟩:=IB hL h;injection h1 with h1 _
   injection h3 with h3 _
   obtain⟨a,b,c⟩:=hs D;refine⟨hX,by omega,fun i hi hi2=>?_,fun o k ho=>?_⟩
   · have hr:¬refused t i:=fun h=>by unfold refused at h;omega
     rw[tabGet,if_neg hr];have e:look D X (entAt t i)=(List.replicate 64 0,0):=by
      rcases(show entAt t i=96+2*t\/entAt t i=96+2*t+1 by unfold entAt;omega)with h|h
      · rw[h,a,<-h1]
      · rw[h,b,<-h3]
     rw[e,if_neg (by simp)];have:cut (List.replicate 64 (0:UInt8)) (entOff i).toNat 8=List.replicate 8 0:=by
      rw[cut,List.drop_replicate,List.take_replicate]
      congr 1
      unfold entOff;omega
     rw[this,La]
   · by_cases hr:o<0\/256<=o
     · rw[tabGet_refused (.inl hr),tabGet_refused (.inl hr)]
     · exact Fa (by omega) (by omega) (fun hi hi2=>c _ (by unfold entAt;omega) (by unfold entAt;omega))
theorem Qg {f t:Int}(hL:L.Fit)(h:tabCopy D L f t=(X,0)):X.Fit/\(∀i,tabGet D X t i=tabGet D L f i)/\∀o k,o≠t->tabGet D X o k=tabGet D L o k:=by
 rw[tabCopy]at h
 split at h
 · injection h with _ h;simp at h
 · rename_i ht
   obtain⟨s0,s1,M,h1,h2,h3,h4,_,hX,hs⟩:=IB hL h;obtain⟨a,b,c⟩:=hs D;have h5:=(Dl hL (k:=96+2*t) (s:=s0) (by rw[h2]) D).2 (96+2*f+1) (by omega);rw[h2]at h5;have h3:look D M (96+2*f+1)=(s1,0):=h3;have h1:look D L (96+2*f+0)=(s0,0):=h1;refine⟨hX,fun i=>?_,fun o k ho=>?_⟩
   · refine Fa (by omega) (by omega) (fun hi hi2=>?_)
     rcases(show(entAt t i=96+2*t/\entAt f i=96+2*f+0)\/(entAt t i=96+2*t+1/\entAt f i=96+2*f+1) by unfold entAt;omega)with ⟨h,h'⟩|⟨h,h'⟩
     · rw[h,h',a,h1]
     · rw[h,h',b,<-h5,h3]
   · by_cases hr:o<0\/256<=o
     · rw[tabGet_refused (.inl hr),tabGet_refused (.inl hr)]
     · exact Fa (by omega) (by omega) (fun hi hi2=>c _ (by unfold entAt;omega) (by unfold entAt;omega))
theorem tabFind_small (D:Dk)(L:Pn)(t g:Int):0<=(tabFind D L t g).1.1/\(tabFind D L t g).1.1<=2/\0<=(tabFind D L t g).1.2/\(tabFind D L t g).1.2<256:=by
 rw[tabFind]
 split
 · simp
 · split
   · simp
   · split
     · simp
     · exact tabGet_small _ _ _ _
end Pn
end
end Go.Proofs.YtmiilfnchfdfcaaGreatDoor
