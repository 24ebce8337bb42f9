/- By: Base, Mem, PackLaw. -/
import Derived.RangeFuncNested
import Derived.RangeFuncBound
import Derived.RangeFuncCalls
import Derived.RangeFuncLeaves
import Derived.Shelf.Abstract
import Derived.WalkKit
import Derived.WalkSpells
import Derived.WalkLawsBesides
import Derived.OwnWalkIn
import Derived.TacticsInMore
import Derived.LoopNIn
import Derived.LoopIn
import Derived.Lib.Hide
import Derived.Lib.Strings
import Derived.Deep.QuietTactic
import Derived.BigQuiet
import Derived.Laws.OwnMore
import Derived.Deep.AppendLies
import Derived.Laws.AppendOwnNone
import Derived.Shelf.GgClosure.StringsIndexFunc
set_option maxRecDepth 100000
set_option maxHeartbeats 40000000
set_option linter.unusedVariables false
namespace Go.Proofs.YtmiilfnchfdfcaaGreatDoor
section
open Go.RowKit Go.Shelf
def bs (l:List UInt8):ByteArray:=⟨l.toArray⟩
theorem CK (s:ByteArray):∃l,s=bs l:=⟨s.data.toList,by simp[bs]⟩
theorem Ad (l:List UInt8):(⟨l.toArray⟩:ByteArray)=bs l:=rfl
theorem AY (l:List UInt8):(bs l).data.toList=l:=by simp[bs]
theorem Aj (l:List UInt8):(bs l).toList=l:=by rw[Lib.toList_data,AY]
theorem Ac (l:List UInt8):(bs l).size=l.length:=by simp[bs,ByteArray.size]
theorem Ai (l:List UInt8)(i:Nat)(h:i<(bs l).size):(bs l)[i]'h=l[i]'(by rw[Ac]at h;exact h):=by
 simp[bs,ByteArray.getElem_eq_getElem_data]
theorem Ag (a b:List UInt8):bs a++bs b=bs (a++b):=by
 apply ByteArray.ext;simp[bs]
theorem Ah (l:List UInt8)(i j:Nat):(bs l).extract i j=bs ((l.take j).drop i):=by
 apply ByteArray.ext
 simp[bs,List.extract_eq_take_drop,List.drop_take]
def Blk (W:World)(g:Nat)(t:TypeId)(cs:Array Value):Prop:=W.heap[g]? =some (.cells cs t (0,0))
section
variable {W W':World} {g:Nat} {t:TypeId} {cs:Array Value}
theorem Blk.lt (h:Blk W g t cs):g<W.heap.size:=(Array.getElem?_eq_some_iff.1 h).1
theorem Blk.kept {row:Option Nat}(h:Blk W g t cs)(hg:W.grownBy W' row)(hne:some g≠row):Blk W' g t cs:=(hg.block g h.lt hne).trans h
theorem Blk.below {B:Nat}(h:Blk W g t cs)(hb:Below B W W')(hg:g<B):Blk W' g t cs:=(hb.block g hg).trans h
theorem Blk.alloc (h:Blk W g t cs)(o:Obj):Blk (W.alloc o) g t cs:=h.kept (World.grownBy_alloc W o none) (by simp)
theorem Blk.cell (h:Blk W g t cs)(j:Nat):W.cell? ⟨g,j,none⟩=cs[j]? :=by simp[World.cell?,show W.heap[g]? =_ from h]
theorem Blk.frozen (h:Blk W g t cs)(j:Nat):W.frozen? ⟨g,j,none⟩=false:=by simp[World.frozen?,show W.heap[g]? =_ from h]
theorem Blk.new (W:World)(t:TypeId)(cs:Array Value):Blk (W.alloc (.cells cs t)) W.heap.size t cs:=World.alloc_heap_new W _
theorem Blk.set (h:Blk W g t cs)(j:Nat)(v:Value):Blk (W.setCell ⟨g,j,none⟩ v) g t (cs.setIfInBounds j v):=by
 obtain⟨hlt,hk⟩:=Array.getElem?_eq_some_iff.1 h;show(W.heap.modify g _)[g]? =_;rw[Array.getElem?_eq_getElem (by rw[Array.size_modify];exact hlt),Array.getElem_modify_self,hk];rfl
theorem Blk.other (h:Blk W g t cs){a:Addr}(hne:g≠a.block)(v:Value):Blk (W.setCell a v) g t cs:=(Below.heap_setCell W a v g hne).trans h
theorem Blk.drew (h:Blk W g t cs):Blk W.drew g t cs:=h
theorem Blk.drewN (h:Blk W g t cs)(n:Nat):Blk (W.drewN n) g t cs:=h
theorem AA {β:Type}(g:Nat)(t:TypeId)(f:β->Array Value):Own (fun s W=>Blk W g t (f s)):=fun s X Y row hs hg hrow=>
 hs.kept hg (fun e'=>by obtain⟨o,ho,hc⟩:=hrow g e'.symm;rw[show X.heap[g]? =_ from hs]at ho;cases ho;cases hc)
theorem Own.and {β:Type}{I I':β->World->Prop}(h:Own I)(h':Own I'):Own (fun s W=>I s W/\I' s W):=fun s W W' row hs hg hr=>⟨h s W W' row hs.1 hg hr,h' s W W' row hs.2 hg hr⟩
end
theorem GH {k:IntKind}{a b:Int}(h:a=b):Value.int k a=Value.int k b:=by rw[h]
theorem hid {p:Prop}(h:p):Hid p:=h
def byteCells (l:List UInt8):Array Value:=(l.map fun b=>Value.int .u8 b.toNat).toArray
theorem Bq {B:Nat}{a w:World}(h:Below B a w)(n:Nat):Below B a (w.drewN n):=⟨h.os,h.tape,h.output,h.size,h.block⟩
theorem CR (w:World)(n:Nat):Below w.heap.size w (w.drewN n):=Bq (Below.refl _ _) n
theorem bt {w w1 w2:World}(h:Below w.heap.size w w1)(k:Below w1.heap.size w1 w2):Below w.heap.size w w2:=h.trans (k.mono h.size)
theorem Blk.fz {W:World}{g:Nat}{t:TypeId}{cs:Array Value}(h:Blk W g t cs)(j:Nat):W.frozen? ⟨g,j,none⟩=false:=h.frozen j
theorem Yx {B:Nat}{u W:World}{a:Addr}{v:Value}{k:Nat}{t:TypeId}{cs:Array Value}(h:Blk W k t cs)(hb:Below B u (W.setCell a v))(hk:k≠a.block:=by first|omega|(dsimp only;omega)):Blk (W.setCell a v) k t cs:=h.other hk v
theorem Ya {u W:World}{o:Obj}{a:Nat}{k:TypeId}{A:Array Value}(h:Below u.heap.size u W)(x:Blk (W.alloc o) a k A):Below u.heap.size u (W.alloc o):=h.alloc h.size o
theorem Yb {u W:World}{o:Obj}{b:Nat}(h:Below b u (W.alloc o)):Below W.heap.size W (W.alloc o):=(Below.refl _ _).alloc (Nat.le_refl _) o
theorem Yc {u W:World}{o:Obj}{a b:Nat}{k:TypeId}{A:Array Value}(x:Blk W a k A)(h:Below b u (W.alloc o)):Blk (W.alloc o) a k A:=x.alloc o
theorem Yd {u W:World}{b:Nat}(h:Below b u W)(k:TypeId)(A:Array Value):Blk (W.alloc (.cells A k)) W.heap.size k A:=Blk.new W k A
theorem Ye {α:Type _}:(∀(xs:List α)(i:Nat)(a:α),xs.toArray.setIfInBounds i a=(xs.set i a).toArray)/\(∀(x:α)(xs:List α)(a:α),(x::xs).set 0 a=a::xs)/\(∀(x:α)(xs:List α)(n:Nat)(a:α),(x::xs).set (n+1) a=x::xs.set n a):=⟨fun _ _ _=>List.setIfInBounds_toArray ..,fun _ _ _=>rfl,fun _ _ _ _=>rfl⟩
theorem Yn {α:Type _}:(∀xs:List α,xs.toArray.size=xs.length)/\(∀(a:α)(xs:List α),(a::xs).length=xs.length+1)/\(([]:List α).length=0)/\(∀(n:Nat)(a:α),Array.replicate (n+1) a=(Array.replicate n a).push a)/\(∀a:α,Array.replicate 0 a=#[])/\(∀(l:List α)(a:α),l.toArray.push a=(l++[a]).toArray)/\(∀xs ys:List α,xs.toArray++ys.toArray=(xs++ys).toArray)/\(∀xs:List α,[]++xs=xs)/\(∀(a:α)(xs ys:List α),a::xs++ys=a::(xs++ys)):=⟨fun _=>List.size_toArray,fun _ _=>rfl,rfl,fun _ _=>Array.replicate_succ,fun _=>Array.replicate_zero,fun _ _=>List.push_toArray ..,fun _ _=>List.append_toArray ..,fun _=>rfl,fun _ _ _=>rfl⟩
theorem Yz {W:World}(o:Obj):Below W.heap.size W (W.alloc o):=(Below.refl _ _).alloc (Nat.le_refl _) o
theorem Ys (w:World)(o:Obj):(w.alloc o).heap.size=w.heap.size+1:=World.size_alloc ..
theorem Yf:(∀(a:Act)(d:Tmp)(v:Value),a.put (some d) v={a with tmps:=a.tmps.setIfInBounds d v})/\(∀(a:Act)(v:Value),a.put none v=a)/\(∀(xs:List Value)(i:Nat)(a:Value),xs.toArray.setIfInBounds i a=(xs.set i a).toArray)/\(∀(x:Value)(xs:List Value)(a:Value),(x::xs).set 0 a=a::xs)/\(∀(x:Value)(xs:List Value)(n:Nat)(a:Value),(x::xs).set (n+1) a=x::xs.set n a):=⟨fun _ _ _=>rfl,fun _ _=>rfl,fun _ _ _=>List.setIfInBounds_toArray ..,fun _ _ _=>rfl,fun _ _ _ _=>rfl⟩
structure Ext (w:World) where
 world:World
 below:Below w.heap.size w world
instance extInhabited (w:World):Nonempty (Ext w):=⟨⟨w,Below.refl _ _⟩⟩
theorem Ext.cell {w:World}{a:Addr}{v:Value}(h:w.cell? a=some v)(p:Ext w):p.world.cell? a=some v:=by
 have hb:a.block<w.heap.size:=by
  rcases Nat.lt_or_ge a.block w.heap.size with h'|h'
  · exact h'
  · rw[World.cell?,Array.getElem?_eq_none h']at h;cases h
 rw[p.below.cell hb];exact h
theorem Ay {P:Program}{id:Nat}{Q:Exit->Act->World->Prop}{a:Act}{w:World}{l:List Oper}(hm:P.follows .mixedOrders=true)(hB:Region.lexB .any l.toArray=true)
 (h:wpQuiet P l.toArray (fun w'=>∃p:Ext w,w'=p.world) (fun a'=>∀w',(∃p:Ext w,w'=p.world)->Q .normal a' w') l a):(Code.region id l.toArray true).wp P Q a w:=
 wp_region_quiet (C:=fun w'=>∃p:Ext w,w'=p.world) hm hB ⟨⟨w.drew,(Below.refl _ _).drew⟩,rfl⟩ (by simpa using h)
theorem Al {P:Program}{f:FuncId}{args:Array Value}{w:World}{p:Ext w}{v:Value}
 (h:Calls P f args p.world fun e w'=>e=.returned v/\Below p.world.heap.size p.world w'):Calls P f args p.world fun e w''=>e=.returned v/\∃q:Ext w,w''=q.world:=
 h.mono fun _ w'' ⟨he,hb⟩=>⟨he,⟨w'',bt p.below hb⟩,rfl⟩
theorem Cf {P:Program}(t e:TypeId)(i:TypeInfo)(z:Value)(ht:P.underlying t=some (.slice e))(hi:P.info? e=some i)(hz:i.zero=some z)
 (kl kc:IntKind) (n c:Nat) (hnc:n<=c) (hbytes:i.bytes*c<=281474976710656) (h63:c<=9223372036854775807) (w:World):
 (Instr.makeSlice t (.int kl (n:Int)) (.int kc (c:Int))).run P w=.ok (.slice (some ⟨w.heap.size,0,none⟩) n c) (w.alloc (.cells (madeCells z.cells (c*i.size)) e)):=by
 have hb:(i.bytes:Int)*(c:Int)<=281474976710656:=by
  have h:((i.bytes*c:Nat):Int)<=281474976710656:=by omega
  rwa [Int.natCast_mul]at h
 have hr:=run_make (P:=P) w t e i z ht hi hz kl kc n c (by omega) (by omega) hb (by omega);simp only[Int.toNat_natCast]at hr;exact hr
theorem AZ {w:World}{a:Addr}{v:Value}(h:w.cell? a=some v):a.block<w.heap.size:=by
 rcases Nat.lt_or_ge a.block w.heap.size with h'|h'
 · exact h'
 · rw[World.cell?,Array.getElem?_eq_none h']at h;cases h
theorem Av {w w':World}{a:Addr}{v:Value}(hb:Below w.heap.size w w')(h:w.cell? a=some v):w'.cell? a=some v:=by
 rw[hb.cell (AZ h)];exact h
def Cells (w:World)(A:Option Addr)(cs:List Value):Prop:=
 cs=[]\/∃b off,A=some ⟨b,off,none⟩/\∀j u,cs[j]? =some u->w.cell? ⟨b,off+j,none⟩=some u
section
variable {w w':World} {A:Option Addr} {cs:List Value}
theorem Cells.nil:Cells w A []:=.inl rfl
theorem Cells.below (h:Cells w A cs)(hb:Below w.heap.size w w'):Cells w' A cs:=by
 rcases h with h|⟨b,off,e,hc⟩
 · exact .inl h
 · exact .inr ⟨b,off,e,fun j u hu=>Av hb (hc j u hu)⟩
theorem Cells.take (h:Cells w A cs)(n:Nat):Cells w A (cs.take n):=by
 rcases h with h|⟨b,off,e,hc⟩
 · exact .inl (by rw[h];simp)
 · refine .inr ⟨b,off,e,fun j u hu=>hc j u ?_⟩;rw[List.getElem?_take]at hu
   split at hu
   · exact hu
   · cases hu
theorem Cells.setCell (h:Cells w A cs){p:Addr}(hne:∀b off,A=some ⟨b,off,none⟩->b≠p.block)(v:Value):Cells (w.setCell p v) A cs:=by
 rcases h with h|⟨b,off,e,hc⟩
 · exact .inl h
 · exact .inr ⟨b,off,e,fun j u hu=>by
    rw[World.cell?_setCell_other _ _ _ _ (by rintro rfl;exact hne b off e rfl)];exact hc j u hu⟩
theorem Cells.set5 (h:Cells w A cs){g:Nat}(hne:∀b off,A=some ⟨b,off,none⟩->b≠g)(v0 v1 v2 v3 v4:Value):
 Cells (((((w.setCell ⟨g,0,none⟩ v0).setCell ⟨g,1,none⟩ v1).setCell ⟨g,2,none⟩ v2).setCell ⟨g,3,none⟩ v3).setCell ⟨g,4,none⟩ v4) A cs:=
 ((((h.setCell (p:=⟨g,0,none⟩) hne v0).setCell (p:=⟨g,1,none⟩) hne v1).setCell (p:=⟨g,2,none⟩) hne v2).setCell (p:=⟨g,3,none⟩) hne v3).setCell (p:=⟨g,4,none⟩) hne v4
theorem AF {base:Nat}{e:TypeId}{size n c:Nat}(h:w.ownsRow base e size (.slice A n c) n cs){g:Nat}(hg:g<base):∀b off,A=some ⟨b,off,none⟩->b≠g:=by
 intro b off he;subst he;have:=(h.lt b rfl).1;omega
theorem Cells.of_own {base:Nat}{e:TypeId}{size n c:Nat}(h:w.ownsRow base e size (.slice A n c) n cs):Cells w A cs:=by
 rcases Nat.eq_zero_or_pos n with hn|hn
 · left
   have:=h.1;rw[hn,Nat.zero_mul]at this;exact List.length_eq_zero_iff.1 this
 · obtain⟨g,cap,hv,_,_⟩:=h.form hn;have hA:A=some ⟨g,0,none⟩:=by injection hv
   refine .inr ⟨g,0,hA,fun j u hu=>?_⟩;subst hA;have:=h.cells (g:=g) rfl j u hu;rw[show(0+j)=j by omega];have e:(Addr.add ⟨g,0,none⟩ j)=⟨g,j,none⟩:=by simp only[Addr.add];split<;>simp_all
   rw[e]at this;exact this
end
theorem Bo (b off j:Nat):(Addr.add ⟨b,off,none⟩ j)=⟨b,off+j,none⟩:=by
 simp only[Addr.add];split<;>simp_all
theorem Bf {w w':World}{base:Nat}{e:TypeId}{size n:Nat}{v:Value}{xs:List Value}(h:w.ownsRow base e size v n xs)(hg:w.grownBy w' v.ownBlock)(hB:base<=w.heap.size):Below base w w':=
 (Below.refl base w).grown hg hB (fun k hk=>(h.lt k hk).1)
theorem A6 {P:Program}{w:World}{ops:Array Oper}{rest:List Oper}{o:Oper}{a:Act}{Q:Exit->Act->World->Prop}(hgd:o.guard=none)(s x:Operand)(t:TypeId)
 (ho:o.op=.call {callee:=.builtin .append,args:=#[s,x],argTypes:=#[t,t]})
 (base:Nat) (e:TypeId) (i:TypeInfo) (z:Value) (size bytes:Nat) (ht:P.underlying t=some (.slice e)) (hi:P.info? e=some i) (hz:i.zero=some z)
 (hsize:i.size=size) (hby:i.bytes=bytes) (hzs:z.cells.size=size) (hsz:0<size)
 (v:Value) (n:Nat) (xs:List Value) (hs:a.eval s=v) (hown:w.ownsRow base e size v n xs)
 (A:Option Addr) (m c:Nat) (news:List Value) (hx:a.eval x=.slice A m c) (hc:Cells w A news) (hl:news.length=m*size) (hnil:A=none->c=0) (h1:∀u∈news,u.oneCell'=true)
 (h63:n+m<=maxLen) (hbytes:(n+m)*bytes<=140737488355328) (hbase:base<=w.heap.size)
 (h:∀v' w',w'.ownsRow base e size v' (n+m) (xs++news)->Below base w w'->wpList P ops Q rest (a.put o.dst v') w'):wpList P ops Q (o::rest) a w:=by
 cases A with
 |none=>
  have hnews:news=[]:=by
   rcases hc with h|⟨b,off,he,_⟩
   · exact h
   · cases he
  have hm:m=0:=by
   rw[hnews]at hl
   rcases Nat.eq_zero_or_pos m with h|h
   · exact h
   · have:=Nat.mul_pos h hsz;simp at hl;omega
  obtain rfl:=hnil rfl;subst hm;rw[hnews,List.append_nil,Nat.add_zero]at h;exact wpList_append_own_none hgd s x t ho base e i size ht hi v n xs hs hown hx (h v w hown (Below.refl _ _))
 |some ad=>
  refine wpList_append_own _ hgd s x t ho base e i z size bytes ht hi hz hsize hby hzs hsz v n xs hs hown ad m c news hx hl ?_ h1 h63 hbytes hbase (fun v' w' h2 h3 _=>h v' w' h2 (Bf hown h3 hbase));intro j u hu
  rcases hc with h|⟨b,off,he,hcell⟩
  · rw[h]at hu;cases hu
  · injection he with he
    rw[he,Bo];exact hcell j u hu
theorem EX (w:World)(l:List Value)(t:TypeId):Cells (w.alloc (.cells l.toArray t)) (some ⟨w.heap.size,0,none⟩) l:=by
 refine .inr ⟨w.heap.size,0,rfl,fun j u hu=>?_⟩;rw[(Blk.new w t l.toArray).cell];simpa using hu
def intCells (l:List Int):List Value:=l.map (Value.int .i64)
def strCells (l:List (List UInt8)):List Value:=l.map fun s=>Value.string (bs s)
def boolCells (l:List Bool):List Value:=l.map Value.bool
def putCells (l:List (Int×List UInt8)):List Value:=l.flatMap fun p=>[.int .i64 p.1,.string (bs p.2)]
theorem Cr (l:List Int):(intCells l).length=l.length:=by simp[intCells]
theorem strCells_length (l:List (List UInt8)):(strCells l).length=l.length:=by simp[strCells]
theorem Cb (l:List (Int×List UInt8)):(putCells l).length=l.length*2:=by
 induction l with
 |nil=>rfl
 |cons p l ih=>simp[putCells]at ih ⊢;omega
theorem Gb (l:List Int):∀u∈intCells l,u.oneCell'=true:=by
 intro u hu;obtain⟨x,_,rfl⟩:=List.mem_map.1 hu;rfl
theorem C8 (l:List (List UInt8)):∀u∈strCells l,u.oneCell'=true:=by
 intro u hu;obtain⟨x,_,rfl⟩:=List.mem_map.1 hu;rfl
theorem Gc (l:List (Int×List UInt8)):∀u∈putCells l,u.oneCell'=true:=by
 intro u hu;simp only[putCells,List.mem_flatMap,List.mem_cons,List.not_mem_nil,or_false]at hu;obtain⟨x,_,rfl|rfl⟩:=hu<;>rfl
theorem Az {w:World}{base:Nat}{e:TypeId}{size n:Nat}{v:Value}{xs:List Value}(h:w.ownsRow base e size v n xs):∃A c,v=.slice A n c/\n<=c/\c<=maxLen/\(A=none->c=0):=by
 rcases h.2 with ⟨hv,hn⟩|⟨g,cap,cur,hv,_,_,h1,h2,_⟩
 · subst hn;exact⟨none,0,hv,Nat.le_refl _,Nat.zero_le _,fun _=>rfl⟩
 · exact⟨some ⟨g,0,none⟩,cap,hv,h1,h2,fun h=>by cases h⟩
theorem Ei (l:List (Int×List UInt8))(i:Nat)(h:i<l.length):(putCells l)[i*2]? =some (.int .i64 l[i].1)/\(putCells l)[i*2+1]? =some (.string (bs l[i].2)):=by
 induction l generalizing i with
 |nil=>simp at h
 |cons p l ih=>
  cases i with
  |zero=>simp[putCells]
  |succ i=>
   have:=ih i (by simpa using h);have e:(i+1)*2=i*2+1+1:=by omega
   rw[e];simpa[putCells]using this
theorem Cells.int {w:World}{A:Option Addr}{l:List Int}(h:Cells w A (intCells l)){i:Nat}(hi:i<l.length):
 ∃b off,A=some ⟨b,off,none⟩/\∀j (hj:j<l.length),w.cell? ⟨b,off+j,none⟩=some (.int .i64 l[j]):=by
 rcases h with h|⟨b,off,e,hc⟩
 · have:=congrArg List.length h;simp[intCells]at this;subst this;simp at hi
 · exact⟨b,off,e,fun j hj=>hc j _ (by simp[intCells,hj])⟩
theorem Cells.str {w:World}{A:Option Addr}{l:List (List UInt8)}(h:Cells w A (strCells l)){i:Nat}(hi:i<l.length):
 ∃b off,A=some ⟨b,off,none⟩/\∀j (hj:j<l.length),w.cell? ⟨b,off+j,none⟩=some (.string (bs l[j])):=by
 rcases h with h|⟨b,off,e,hc⟩
 · have:=congrArg List.length h;simp[strCells]at this;subst this;simp at hi
 · exact⟨b,off,e,fun j hj=>hc j _ (by simp[strCells,hj])⟩
theorem Cells.bool {w:World}{A:Option Addr}{l:List Bool}(h:Cells w A (boolCells l)){i:Nat}(hi:i<l.length):
 ∃b off,A=some ⟨b,off,none⟩/\∀j (hj:j<l.length),w.cell? ⟨b,off+j,none⟩=some (.bool l[j]):=by
 rcases h with h|⟨b,off,e,hc⟩
 · have:=congrArg List.length h;simp[boolCells]at this;subst this;simp at hi
 · exact⟨b,off,e,fun j hj=>hc j _ (by simp[boolCells,hj])⟩
theorem Cells.put {w:World}{A:Option Addr}{l:List (Int×List UInt8)}(h:Cells w A (putCells l)){i:Nat}(hi:i<l.length):
 ∃b off,A=some ⟨b,off,none⟩/\∀j (hj:j<l.length),w.cell? ⟨b,off+j*2,none⟩=some (.int .i64 l[j].1)/\w.cell? ⟨b,off+j*2+1,none⟩=some (.string (bs l[j].2)):=by
 rcases h with h|⟨b,off,e,hc⟩
 · have:=congrArg List.length h;rw[Cb]at this;simp only[List.length_nil]at this;omega
 · exact⟨b,off,e,fun j hj=>⟨hc _ _ (Ei l j hj).1,by have:=hc _ _ (Ei l j hj).2;rw[show off+j*2+1=off+(j*2+1) by omega];exact this⟩⟩
theorem blk5 {w:World}{g:Nat}{t:TypeId}{a b c d e:Value}(h:Blk w g t #[a,b,c,d,e]):
 w.cell? ⟨g,0,none⟩=some a/\w.cell? ⟨g,1,none⟩=some b/\w.cell? ⟨g,2,none⟩=some c/\w.cell? ⟨g,3,none⟩=some d/\w.cell? ⟨g,4,none⟩=some e:=
 ⟨h.cell 0,h.cell 1,h.cell 2,h.cell 3,h.cell 4⟩
theorem blk2 {w:World}{g:Nat}{t:TypeId}{a b:Value}(h:Blk w g t #[a,b]):w.cell? ⟨g,0,none⟩=some a/\w.cell? ⟨g,1,none⟩=some b:=⟨h.cell 0,h.cell 1⟩
theorem blk1 {w:World}{g:Nat}{t:TypeId}{a:Value}(h:Blk w g t #[a]):w.cell? ⟨g,0,none⟩=some a:=h.cell 0
theorem BN {w w1:World}(t:TypeId)(cs:Array Value)(hb:Below (w.alloc (.cells cs t)).heap.size (w.alloc (.cells cs t)) w1):Blk w1 w.heap.size t cs:=
 (Blk.new w t cs).below hb (by simp)
theorem ext5 {w:World}{g:Nat}{t:TypeId}{a b c d e:Value}(h:Blk w g t #[a,b,c,d,e])(x:Ext w):
 x.world.cell? ⟨g,0,none⟩=some a/\x.world.cell? ⟨g,1,none⟩=some b/\x.world.cell? ⟨g,2,none⟩=some c/\x.world.cell? ⟨g,3,none⟩=some d/\x.world.cell? ⟨g,4,none⟩=some e:=
 ⟨x.cell (h.cell 0),x.cell (h.cell 1),x.cell (h.cell 2),x.cell (h.cell 3),x.cell (h.cell 4)⟩
theorem ext2 {w:World}{g:Nat}{t:TypeId}{a b:Value}(h:Blk w g t #[a,b])(x:Ext w):x.world.cell? ⟨g,0,none⟩=some a/\x.world.cell? ⟨g,1,none⟩=some b:=
 ⟨x.cell (h.cell 0),x.cell (h.cell 1)⟩
def RowB (W:World)(g:Nat)(l:List UInt8):Prop:=∀j (hj:j<l.length),W.cell? ⟨g,j,none⟩=some (.int .u8 l[j].toNat)/\W.frozen? ⟨g,j,none⟩=false
theorem RowB.kept {W W':World}{g:Nat}{l:List UInt8}(h:RowB W g l)(hk:W'.heap[g]? =W.heap[g]?):RowB W' g l:=fun j hj=>by
 obtain⟨h1,h2⟩:=h j hj;exact⟨(World.cell?_of_block (w:=W) (a:=⟨g,j,none⟩) hk).trans h1,(World.frozen?_of_block (w:=W) (a:=⟨g,j,none⟩) hk).trans h2⟩
theorem RowB.set {W:World}{g:Nat}{l:List UInt8}(h:RowB W g l)(o:Nat)(x:UInt8)(ho:o<l.length):RowB (W.setCell ⟨g,o,none⟩ (.int .u8 x.toNat)) g (l.set o x):=fun j hj=>by
 rw[List.length_set]at hj;obtain⟨h1,h2⟩:=h j hj;refine⟨?_,by rw[World.frozen?_setCell];exact h2⟩;by_cases e:j=o
 · subst e;rw[World.cell?_setCell_same' _ _ _ (by rw[h1];rfl)];simp
 · rw[World.cell?_setCell_other _ _ _ _ (by intro h;injection h with _ h;exact e h.symm)];rw[List.getElem_set_ne (Ne.symm e)];exact h1
theorem RowB.setCells {g:Nat}(t:List UInt8):∀{W:World}{l:List UInt8}(o:Nat),RowB W g l->o+t.length<=l.length->RowB (W.setCells g o (t.map fun x=>Value.int .u8 (x.toNat:Int))) g (l.take o++t++l.drop (o+t.length)):=by
 induction t with
 |nil=>intro W l o h hl;simpa[World.setCells]using h
 |cons x t ih=>
  intro W l o h hl;simp only[List.length_cons]at hl;have h1:=ih (o+1) (h.set o x (by omega)) (by rw[List.length_set];omega);have e:(l.set o x).take (o+1)++t++(l.set o x).drop (o+1+t.length)=l.take o++(x::t)++l.drop (o+(t.length+1)):=by
   rw[List.take_succ_eq_append_getElem (by rw[List.length_set];omega),List.take_set_of_le (by omega),List.drop_set_of_lt (by omega)];simp
   congr 1;omega
  rw[e]at h1;exact h1
theorem below_setCells' {B g:Nat}{a:World}(hB:B<=g):∀(vs:List Value)(o:Nat){w:World},Below B a w->Below B a (w.setCells g o vs)
 |[],_,_,h=>h
 |v::r,o,_,h=>below_setCells' hB r (o+1) (h.setCell (p:=⟨g,o,none⟩) hB v)
theorem BK {g:Nat}{k:Nat}(hk:k≠g):∀(vs:List Value)(o:Nat)(w:World),(w.setCells g o vs).heap[k]? =w.heap[k]?
 |[],_,_=>rfl
 |v::r,o,w=>(BK hk r (o+1) _).trans (Below.heap_setCell w ⟨g,o,none⟩ v k hk)
theorem AO {w w1:World}{t u:TypeId}{cs ds:Array Value}(hb:Below ((w.alloc (.cells cs t)).alloc (.cells ds u)).heap.size ((w.alloc (.cells cs t)).alloc (.cells ds u)) w1):Blk w1 w.heap.size t cs/\Blk w1 (w.heap.size+1) u ds:=by
 refine⟨((Blk.new w t cs).alloc _).below hb (by simp;omega),?_⟩;have:=Blk.new (w.alloc (.cells cs t)) u ds;rw[World.size_alloc]at this;exact this.below hb (by simp)
theorem Ap (w:World)(o o':Obj):Below w.heap.size w ((w.alloc o).alloc o'):=(Yz (W:=w) o).alloc (by simp) o'
theorem Ao {w:World}{g:Nat}{t:TypeId}{a b c d e:Value}(h:Blk w g t #[a,b,c,d,e])(v0 v1 v2 v3 v4:Value):
 Blk (((((w.setCell ⟨g,0,none⟩ v0).setCell ⟨g,1,none⟩ v1).setCell ⟨g,2,none⟩ v2).setCell ⟨g,3,none⟩ v3).setCell ⟨g,4,none⟩ v4) g t #[v0,v1,v2,v3,v4]:=by
 have:=((((h.set 0 v0).set 1 v1).set 2 v2).set 3 v3).set 4 v4;simpa using this
theorem Am {B:Nat}{w0 w:World}{g:Nat}(h:Below B w0 w)(hg:B<=g)(v0 v1 v2 v3 v4:Value):
 Below B w0 (((((w.setCell ⟨g,0,none⟩ v0).setCell ⟨g,1,none⟩ v1).setCell ⟨g,2,none⟩ v2).setCell ⟨g,3,none⟩ v3).setCell ⟨g,4,none⟩ v4):=
 ((((h.setCell (p:=⟨g,0,none⟩) hg v0).setCell (p:=⟨g,1,none⟩) hg v1).setCell (p:=⟨g,2,none⟩) hg v2).setCell (p:=⟨g,3,none⟩) hg v3).setCell (p:=⟨g,4,none⟩) hg v4
theorem At {w:World}{g k:Nat}{t:TypeId}{cs:Array Value}(h:Blk w k t cs)(hk:k≠g)(v0 v1 v2 v3 v4:Value):
 Blk (((((w.setCell ⟨g,0,none⟩ v0).setCell ⟨g,1,none⟩ v1).setCell ⟨g,2,none⟩ v2).setCell ⟨g,3,none⟩ v3).setCell ⟨g,4,none⟩ v4) k t cs:=
 ((((h.other (a:=⟨g,0,none⟩) hk v0).other (a:=⟨g,1,none⟩) hk v1).other (a:=⟨g,2,none⟩) hk v2).other (a:=⟨g,3,none⟩) hk v3).other (a:=⟨g,4,none⟩) hk v4
theorem Yk5 {U W:World}{g:Nat}{t t':TypeId}{a0 a1 a2 a3 a4 v0 v1 v2 v3 v4:Value}(x:Blk W g t #[a0,a1,a2,a3,a4])(y:Blk U g t' #[v0,v1,v2,v3,v4]):W.frozen? ⟨g,0,none⟩=false/\W.cell? ⟨g,0,none⟩=some a0/\(W.setCell ⟨g,0,none⟩ v0).frozen? ⟨g,1,none⟩=false/\(W.setCell ⟨g,0,none⟩ v0).cell? ⟨g,1,none⟩=some a1/\((W.setCell ⟨g,0,none⟩ v0).setCell ⟨g,1,none⟩ v1).frozen? ⟨g,2,none⟩=false/\((W.setCell ⟨g,0,none⟩ v0).setCell ⟨g,1,none⟩ v1).cell? ⟨g,2,none⟩=some a2/\(((W.setCell ⟨g,0,none⟩ v0).setCell ⟨g,1,none⟩ v1).setCell ⟨g,2,none⟩ v2).frozen? ⟨g,3,none⟩=false/\(((W.setCell ⟨g,0,none⟩ v0).setCell ⟨g,1,none⟩ v1).setCell ⟨g,2,none⟩ v2).cell? ⟨g,3,none⟩=some a3/\((((W.setCell ⟨g,0,none⟩ v0).setCell ⟨g,1,none⟩ v1).setCell ⟨g,2,none⟩ v2).setCell ⟨g,3,none⟩ v3).frozen? ⟨g,4,none⟩=false/\((((W.setCell ⟨g,0,none⟩ v0).setCell ⟨g,1,none⟩ v1).setCell ⟨g,2,none⟩ v2).setCell ⟨g,3,none⟩ v3).cell? ⟨g,4,none⟩=some a4:=by
 have c0:=x;have c1:=c0.set 0 v0;simp only[List.setIfInBounds_toArray,List.set_cons_zero,List.set_cons_succ]at c1;have c2:=c1.set 1 v1;simp only[List.setIfInBounds_toArray,List.set_cons_zero,List.set_cons_succ]at c2;have c3:=c2.set 2 v2;simp only[List.setIfInBounds_toArray,List.set_cons_zero,List.set_cons_succ]at c3;have c4:=c3.set 3 v3;simp only[List.setIfInBounds_toArray,List.set_cons_zero,List.set_cons_succ]at c4;exact⟨c0.frozen 0,c0.cell 0,c1.frozen 1,c1.cell 1,c2.frozen 2,c2.cell 2,c3.frozen 3,c3.cell 3,c4.frozen 4,c4.cell 4⟩
theorem Ym5 {B:Nat}{u W:World}{g:Nat}{v0 v1 v2 v3 v4:Value}{t:TypeId}{cs:Array Value}(h:Below B u W)(y:Blk (((((W.setCell ⟨g,0,none⟩ v0).setCell ⟨g,1,none⟩ v1).setCell ⟨g,2,none⟩ v2).setCell ⟨g,3,none⟩ v3).setCell ⟨g,4,none⟩ v4) g t cs)(hg:B<=g:=by omega):Below B u (((((W.setCell ⟨g,0,none⟩ v0).setCell ⟨g,1,none⟩ v1).setCell ⟨g,2,none⟩ v2).setCell ⟨g,3,none⟩ v3).setCell ⟨g,4,none⟩ v4):=Am h hg v0 v1 v2 v3 v4
theorem Yi {B:Nat}{u W:World}{g:Nat}{v0 v1 v2 v3 v4:Value}{k:Nat}{t:TypeId}{cs:Array Value}(h:Blk W k t cs)(hb:Below B u (((((W.setCell ⟨g,0,none⟩ v0).setCell ⟨g,1,none⟩ v1).setCell ⟨g,2,none⟩ v2).setCell ⟨g,3,none⟩ v3).setCell ⟨g,4,none⟩ v4))(hk:k≠g:=by omega):Blk (((((W.setCell ⟨g,0,none⟩ v0).setCell ⟨g,1,none⟩ v1).setCell ⟨g,2,none⟩ v2).setCell ⟨g,3,none⟩ v3).setCell ⟨g,4,none⟩ v4) k t cs:=At h hk v0 v1 v2 v3 v4
theorem Yj {B:Nat}{u W:World}{g:Nat}{v0 v1 v2 v3 v4:Value}{t:TypeId}{a0 a1 a2 a3 a4:Value}(h:Blk W g t #[a0,a1,a2,a3,a4])(hb:Below B u (((((W.setCell ⟨g,0,none⟩ v0).setCell ⟨g,1,none⟩ v1).setCell ⟨g,2,none⟩ v2).setCell ⟨g,3,none⟩ v3).setCell ⟨g,4,none⟩ v4)):Blk (((((W.setCell ⟨g,0,none⟩ v0).setCell ⟨g,1,none⟩ v1).setCell ⟨g,2,none⟩ v2).setCell ⟨g,3,none⟩ v3).setCell ⟨g,4,none⟩ v4) g t #[v0,v1,v2,v3,v4]:=Ao h v0 v1 v2 v3 v4
structure Dk where
 data:List UInt8
 cache:List (Int×List UInt8)
 fuse:Int
 off:Bool
 bad:List Int
structure Pl where
 a:Option Addr
 c:Nat
abbrev dval (D:Dk)(p q:Pl):Value:=
 .agg #[.string (bs D.data),.slice p.a D.cache.length p.c,.int .i64 D.fuse,.bool D.off,.slice q.a D.bad.length q.c]
structure IsDk (w:World) (D:Dk) (p q:Pl):Prop where
 cache:Cells w p.a (putCells D.cache)
 bad:Cells w q.a (intCells D.bad)
 pn:p.a=none->p.c=0
 qn:q.a=none->q.c=0
 pc:D.cache.length<=p.c
 qc:D.bad.length<=q.c
 pm:p.c<=maxLen
 qm:q.c<=maxLen
 cl:D.cache.length<=1099511627776
 bl:D.bad.length<=17592186044416
 data:D.data.length<=140737488355328
 fuse: -9223372036854775808<=D.fuse/\D.fuse<=9223372036854775807
 strs:∀x∈D.cache,x.2.length<=9223372036854775807
 ats:∀x∈D.cache,-9223372036854775808<=x.1/\x.1<=9223372036854775807
 bads:∀x∈D.bad,-9223372036854775808<=x/\x<=9223372036854775807
def RetDk (X:Dk×Int)(e:Ending)(w:World):Prop:=∃p q,e=.returned (.tuple #[dval X.1 p q,.int .i64 X.2])/\IsDk w X.1 p q
theorem IsDk.below {w w':World}{D:Dk}{p q:Pl}(h:IsDk w D p q)(hb:Below w.heap.size w w'):IsDk w' D p q:=
 {h with cache:=h.cache.below hb,bad:=h.bad.below hb}
theorem IsDk.setOff {w:World}{D:Dk}{p q:Pl}(h:IsDk w D p q)(b:Bool):IsDk w {D with off:=b} p q:={h with cache:=h.cache}
theorem IsDk.setFuse {w:World}{D:Dk}{p q:Pl}(h:IsDk w D p q){n:Int}(hn: -9223372036854775808<=n/\n<=9223372036854775807):IsDk w {D with fuse:=n} p q:={h with cache:=h.cache,fuse:=hn}
theorem IsDk.flushed {w:World}{D:Dk}{p q:Pl}(h:IsDk w D p q){L:List UInt8}(hL:L.length<=140737488355328):IsDk w {D with data:=L,cache:=[]} ⟨none,0⟩ q:=
 {h with cache:=.inl rfl,pn:=fun _=>rfl,pc:=Nat.zero_le _,pm:=Nat.zero_le _,cl:=Nat.zero_le _,data:=hL,strs:=fun _ hx=>(by cases hx),ats:=fun _ hx=>(by cases hx)}
theorem FM (w:World):IsDk w ⟨[],[],0,false,[]⟩ ⟨none,0⟩ ⟨none,0⟩:=
 {cache:=.inl rfl,bad:=.inl rfl,pn:=fun _=>rfl,qn:=fun _=>rfl,pc:=Nat.le_refl _,qc:=Nat.le_refl _,pm:=Nat.zero_le _,qm:=Nat.zero_le _,cl:=Nat.zero_le _,bl:=Nat.zero_le _,data:=Nat.zero_le _,fuse:=by simp,strs:=fun _ hx=>(by cases hx),ats:=fun _ hx=>(by cases hx),bads:=fun _ hx=>(by cases hx)}
theorem KM (w:World)(l:List UInt8)(hl:l.length<=140737488355328):IsDk w ⟨l,[],-1,false,[]⟩ ⟨none,0⟩ ⟨none,0⟩:=
 {cache:=.inl rfl,bad:=.inl rfl,pn:=fun _=>rfl,qn:=fun _=>rfl,pc:=Nat.le_refl _,qc:=Nat.le_refl _,pm:=Nat.zero_le _,qm:=Nat.zero_le _,cl:=Nat.zero_le _,bl:=Nat.zero_le _,data:=hl,fuse:=by simp,strs:=fun _ hx=>(by cases hx),ats:=fun _ hx=>(by cases hx),bads:=fun _ hx=>(by cases hx)}
end
section
def be:Nat->Nat->List UInt8
 |0,_=>[]
 |k+1,n=>UInt8.ofNat (n/256^k)::be k n
theorem Aq (k n:Nat):(be k n).length=k:=by induction k<;>simp_all [be]
theorem Dz (k:Nat):∀n:Nat,be k n=be k (n%256^k):=by
 have h:∀j k n:Nat,j<=k->be j n=be j (n%256^k):=by
  intro j
  induction j with
  |zero=>intros;rfl
  |succ j ih=>
   intro k n hj;have ih':=ih k n (by omega);simp only[be];rw[<-ih'];refine congrArg (· ::_) ?_;apply UInt8.toNat_inj.1
   simp only[UInt8.toNat_ofNat'];obtain⟨d,rfl⟩:∃d,k=j+(d+1):=⟨k-j-1,by omega⟩;show n/256^j%256=n%256^(j+(d+1))/256^j%256;rw[Nat.pow_add,Nat.mod_mul_right_div_self,Nat.pow_succ 256 d,Nat.mod_mul_left_mod]
 exact fun n=>h k k n (Nat.le_refl _)
def putStep (len:Nat)(s:List UInt8×Nat)(x:Fin len×UInt8):List UInt8×Nat:=(s.1.set x.1.val (UInt8.ofNat s.2),s.2/256)
def putSt (len n:Nat)(pre:List (Fin len×UInt8)):List UInt8×Nat:=pre.foldl (putStep len) (List.replicate len 0,n)
theorem Ej (len n:Nat)(pre:List (Fin len×UInt8))(x:Fin len×UInt8):putSt len n (pre++[x])=putStep len (putSt len n pre) x:=by simp[putSt]
theorem De (len n:Nat)(pre:List (Fin len×UInt8)):(putSt len n pre).1.length=len:=by
 suffices h:∀(pre:List (Fin len×UInt8))(s:List UInt8×Nat),s.1.length=len->(pre.foldl (putStep len) s).1.length=len from h pre _ (by simp)
 intro pre
 induction pre with
 |nil=>exact fun s h=>h
 |cons y pre ih=>exact fun s h=>ih _ (by simpa[putStep]using h)
theorem Ml (len n:Nat)(k:Nat):∀pre:List (Fin len×UInt8),pre.map (fun y=>y.1.val)=((List.range len).reverse).take k->k<=len->putSt len n pre=(List.replicate (len-k) 0++be k n,n/256^k):=by
 induction k with
 |zero=>
  intro pre h _;obtain rfl:pre=[]:=by simpa using h
  simp[putSt,be]
 |succ k ih=>
  intro pre h hk;have ht:((List.range len).reverse).take (k+1)=((List.range len).reverse).take k++[len-1-k]:=by
   rw[List.take_succ_eq_append_getElem (by simp;omega)];simp
  rw[ht]at h;obtain⟨pre',l2,rfl,h1,h2⟩:=List.map_eq_append_iff.1 h;obtain⟨y,rfl,hy⟩:∃y,l2=[y]/\y.1.val=len-1-k:=by
   cases l2 with
   |nil=>simp at h2
   |cons y l2=>cases l2 with
    |nil=>exact⟨y,rfl,by simpa using h2⟩
    |cons z l2=>simp at h2
  rw[Ej,ih pre' h1 (by omega)];simp only[putStep,hy];refine Prod.ext ?_ ?_
  · have e:len-k=(len-(k+1))+1:=by omega
    rw[e,List.replicate_succ',List.append_assoc,List.set_append_right _ _ (by simp;omega)];have e2:len-1-k-(List.replicate (len-(k+1)) (0:UInt8)).length=0:=by rw[List.length_replicate];omega
    rw[e2];simp[be]
  · show n/256^k/256=n/256^(k+1);rw[Nat.div_div_eq_div_mul,Nat.pow_succ]
theorem Mk (len n:Nat)(ys:List (Fin len×UInt8))(h:ys.map (fun y=>y.1.val)=(List.range len).reverse):(putSt len n ys).1=be len n:=by
 rw[Ml len n len ys (by rw[h,List.take_of_length_le (by simp)]) (Nat.le_refl _)];simp
def un (l:List UInt8):Nat:=l.foldl (fun n c=>n*256+c.toNat) 0
theorem PD (l:List UInt8)(c:UInt8):un (l++[c])=un l*256+c.toNat:=by simp[un]
theorem Bm (l:List UInt8):un l<256^l.length:=by
 suffices h:∀(l:List UInt8)(a:Nat),l.foldl (fun n c=>n*256+c.toNat) a<(a+1)*256^l.length by
  have:=h l 0;rw[Nat.zero_add,Nat.one_mul]at this;exact this
 intro l
 induction l with
 |nil=>intro a;simp
 |cons c l ih=>
  intro a;simp only[List.foldl_cons,List.length_cons];refine Nat.lt_of_lt_of_le (ih _) ?_;rw[Nat.pow_succ,Nat.mul_comm (256^l.length) 256,<-Nat.mul_assoc];refine Nat.mul_le_mul_right _ ?_;have:=c.toNat_lt;omega
def over (s:List UInt8)(k:Nat)(t:List UInt8):List UInt8:=s.take k++t++s.drop (k+t.length)
theorem Da (s t:List UInt8)(k:Nat)(h:k+t.length<=s.length):(over s k t).length=s.length:=by
 simp[over];omega
theorem C9 (s t:List UInt8)(k j:Nat)(h:k+t.length<=s.length):(over s k t)[j]? =if k<=j/\j<k+t.length then t[j-k]? else s[j]? :=by
 unfold over;by_cases h1:j<k
 · rw[if_neg (by omega),List.append_assoc,List.getElem?_append_left (by simp;omega),List.getElem?_take_of_lt h1]
 · by_cases h2:j<k+t.length
   · rw[if_pos ⟨by omega,h2⟩,List.getElem?_append_left (by simp;omega),List.getElem?_append_right (by simp;omega)];simp;congr 1;omega
   · rw[if_neg (by omega),List.getElem?_append_right (by simp;omega),List.getElem?_drop]
     congr 1;simp;omega
def okByte (b:UInt8):Bool:=decide (33<=b.toNat)&&decide (b.toNat<=126)
def nameOk (l:List UInt8):Bool:=!l.isEmpty&&decide (l.length<=8)&&l.all okByte
def badRune (c:Nat):Bool:=decide (c<33)||decide (126<c)
theorem JP (s:ByteArray)(i:Nat)(h:(s.get! i).toNat<128):Utf8.decode s i=((s.get! i).toNat,1):=by
 simp[Utf8.decode,h]
theorem JO (s:ByteArray)(i:Nat)(h:¬(s.get! i).toNat<128):128<=(Utf8.decode s i).1:=by
 simp only[Utf8.decode,Nat.add_zero,h,if_false,Utf8.runeError,Bool.and_eq_true]
 repeat' split
 all_goals simp only[ge_iff_le,decide_eq_true_eq]at*
 all_goals omega
theorem DS (l:List UInt8)(i:Nat)(h:i<l.length):(bs l).get! i=l[i]:=by
 simp[bs,ByteArray.get!,h]
theorem KK (l:List UInt8):∀f pos:Nat,l.length<=pos+f->(Lib.idxFuncFrom badRune true (bs l) f pos<0↔(l.drop pos).all okByte=true):=by
 intro f
 induction f with
 |zero=>intro pos h;rw[List.drop_of_length_le (by omega)];simp[Lib.idxFuncFrom]
 |succ f ih=>
  intro pos h;unfold Lib.idxFuncFrom;by_cases hp:pos<l.length
  · rw[if_pos (by rw[Ac];exact hp),List.drop_eq_getElem_cons hp];simp only[List.all_cons,Bool.and_eq_true];by_cases hb:l[pos].toNat<128
    · rw[JP _ _ (by rw[DS l pos hp];exact hb),DS l pos hp];by_cases hk:badRune l[pos].toNat=true
      · rw[if_pos hk];refine⟨fun hh=>by omega,fun hh=>?_⟩;have:=hh.1;simp[okByte,badRune]at this hk;omega
      · rw[if_neg hk,ih (pos+1) (by omega)];have hok:okByte l[pos]=true:=by
         simp[badRune]at hk;simp[okByte];omega
        simp[hok]
    · have hd:=JO (bs l) pos (by rw[DS l pos hp];exact hb);have hk:badRune (Utf8.decode (bs l) pos).1=true:=by simp[badRune];omega
      rw[if_pos hk];refine⟨fun hh=>by omega,fun hh=>?_⟩;have:=hh.1;simp[okByte]at this;omega
  · rw[if_neg (by rw[Ac];exact hp),List.drop_of_length_le (by omega)];simp
theorem KJ (l:List UInt8):Lib.idxFunc badRune true (bs l)<0↔l.all okByte=true:=by
 have:=KK l (bs l).size 0 (by rw[Ac];omega);rw[List.drop_zero]at this;exact this
end
end Go.Proofs.YtmiilfnchfdfcaaGreatDoor
