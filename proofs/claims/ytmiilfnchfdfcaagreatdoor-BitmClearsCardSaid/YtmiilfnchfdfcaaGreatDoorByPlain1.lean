/- By: Plain1. -/
import Derived.Test.YtmiilfnchfdfcaaGreatDoorByPackLaw
set_option maxRecDepth 100000
set_option maxHeartbeats 40000000
set_option linter.unusedVariables false
namespace Go.Proofs.YtmiilfnchfdfcaaGreatDoor
section
def crc1 (c:Nat):Nat:=(c >>> 1) ^^^ ((c &&& 1)*2197175160)
def crcN:Nat->Nat->Nat
 |0,c=>c
 |n+1,c=>crcN n (crc1 c)
def crcB (c:Nat)(b:UInt8):Nat:=crcN 8 (c ^^^ b.toNat)
def crcL (c:Nat)(l:List UInt8):Nat:=l.foldl crcB c
def crcMore (s:Nat)(l:List UInt8):Nat:=4294967295-crcL (4294967295-s) l
def crcOf (l:List UInt8):Nat:=crcMore 0 l
theorem Jb (x y:Nat):crc1 (x ^^^ y)=crc1 x ^^^ crc1 y:=by
 unfold crc1;rw[Nat.shiftRight_xor_distrib,Nat.and_xor_distrib_right];have h:((x &&& 1) ^^^ (y &&& 1))*2197175160=((x &&& 1)*2197175160) ^^^ ((y &&& 1)*2197175160):=by
  rw[Nat.and_one_is_mod,Nat.and_one_is_mod]
  rcases Nat.mod_two_eq_zero_or_one x with h|h<;>rcases Nat.mod_two_eq_zero_or_one y with h'|h'<;>rw[h,h']<;>rfl
 rw[h]
 ac_rfl
theorem Fd (n:Nat):∀x y,crcN n (x ^^^ y)=crcN n x ^^^ crcN n y:=by
 induction n with
 |zero=>intro x y;rfl
 |succ n ih=>intro x y;rw[crcN,crcN,crcN,Jb,ih]
theorem Ja (k:Nat):crc1 (2*k)=k:=by
 unfold crc1;rw[Nat.and_one_is_mod,Nat.shiftRight_eq_div_pow];simp
theorem Jj (n:Nat):∀k,crcN n (2^n*k)=k:=by
 induction n with
 |zero=>intro k;simp[crcN]
 |succ n ih=>intro k;rw[crcN,Nat.pow_succ,show 2^n*2*k=2*(2^n*k) by rw[Nat.mul_comm (2^n) 2,Nat.mul_assoc],Ja,ih]
theorem Oq (c:Nat):c=(c%256) ^^^ (2^8*(c >>> 8)):=by
 apply Nat.eq_of_testBit_eq
 intro i;rw[Nat.testBit_xor,Nat.testBit_two_pow_mul,show(256:Nat)=2^8 by rfl,Nat.testBit_mod_two_pow];by_cases h:i<8
 · have h8:¬8<=i:=by omega
   simp[h,h8]
 · have h8:8<=i:=by omega
   simp only[h,decide_false,Bool.false_and,h8,decide_true,Bool.true_and,Bool.false_xor];rw[Nat.testBit_shiftRight]
   congr 1;omega
theorem Jf (c:Nat)(b:UInt8):crcB c b=crcN 8 ((c%256) ^^^ b.toNat) ^^^ (c >>> 8):=by
 unfold crcB;have e:c ^^^ b.toNat=((c%256) ^^^ b.toNat) ^^^ (2^8*(c >>> 8)):=by
  conv=>lhs;rw[Oq c]
  ac_rfl
 rw[e,Fd,Jj]
theorem E7 {c:Nat}(h:c<4294967296):crc1 c<4294967296:=by
 unfold crc1;rw[Nat.and_one_is_mod];have h1:c >>> 1<2^32:=by rw[Nat.shiftRight_eq_div_pow];omega
 have h2:c%2*2197175160<2^32:=by rcases Nat.mod_two_eq_zero_or_one c with h|h<;>rw[h]<;>decide
 exact Nat.xor_lt_two_pow h1 h2
theorem CN (n:Nat):∀{c:Nat},c<4294967296->crcN n c<4294967296:=by
 induction n with
 |zero=>intro c h;exact h
 |succ n ih=>intro c h;exact ih (E7 h)
theorem Cn {c:Nat}(h:c<4294967296)(b:UInt8):crcB c b<4294967296:=by
 refine CN 8 (Nat.xor_lt_two_pow (n:=32) h ?_);have:=b.toNat_lt;omega
theorem Bt:∀(l:List UInt8){c:Nat},c<4294967296->crcL c l<4294967296:=by
 intro l
 induction l with
 |nil=>intro c h;exact h
 |cons a l ih=>intro c h;exact ih (Cn h a)
theorem E9 (c:Nat)(l:List UInt8)(b:UInt8):crcL c (l++[b])=crcB (crcL c l) b:=by simp[crcL]
theorem DK (c:Nat)(l m:List UInt8):crcL c (l++m)=crcL (crcL c l) m:=by simp[crcL]
theorem AW (s:Nat)(l:List UInt8):crcMore s l<4294967296:=by unfold crcMore;omega
theorem CM {s:Nat}(h:s<4294967296)(l m:List UInt8):crcMore (crcMore s l) m=crcMore s (l++m):=by
 unfold crcMore;rw[DK];have:=Bt l (c:=4294967295-s) (by omega)
 congr 2
 omega
theorem un2 (a b:UInt8):un [a,b]=a.toNat*256+b.toNat:=by simp[un]
theorem be2 (n:Nat):be 2 n=[UInt8.ofNat (n/256),UInt8.ofNat n]:=by simp[be]
theorem Du {n:Nat}(h:n<65536):un (be 2 n)=n:=by
 rw[be2,un2,UInt8.toNat_ofNat',UInt8.toNat_ofNat'];omega
theorem Jc {x:Nat}(hx:x<4294967296)(h:crc1 x=0):x=0:=by
 unfold crc1 at h;rw[Nat.and_one_is_mod,Nat.shiftRight_eq_div_pow]at h;have h':x/2^1=x%2*2197175160:=by
  have:=congrArg (· ^^^ (x%2*2197175160)) h;simpa[Nat.xor_assoc]using this
 omega
theorem Jk (n:Nat):∀{x:Nat},x<4294967296->crcN n x=0->x=0:=by
 induction n with
 |zero=>intro x _ h;exact h
 |succ n ih=>intro x hx h;exact Jc hx (ih (E7 hx) h)
theorem xor_zero {x y:Nat}(h:x ^^^ y=0):x=y:=by
 have:=congrArg (· ^^^ y) h;simpa[Nat.xor_assoc]using this
theorem Fb {n x y:Nat}(hx:x<4294967296)(hy:y<4294967296)(h:crcN n x=crcN n y):x=y:=by
 refine xor_zero (Jk n (Nat.xor_lt_two_pow (n:=32) hx hy) ?_);rw[Fd,h,Nat.xor_self]
theorem CL {c:Nat}(hc:c<4294967296)(b:UInt8):c ^^^ b.toNat<4294967296:=
 Nat.xor_lt_two_pow (n:=32) hc (by have:=b.toNat_lt;omega)
theorem Jd {c d:Nat}(hc:c<4294967296)(hd:d<4294967296)(b:UInt8)(h:crcB c b=crcB d b):c=d:=by
 have h:=Fb (CL hc b) (CL hd b) h;have:=congrArg (· ^^^ b.toNat) h;simpa[Nat.xor_assoc]using this
theorem Je {c:Nat}(hc:c<4294967296)(a b:UInt8)(h:crcB c a=crcB c b):a=b:=by
 have h:=Fb (CL hc a) (CL hc b) h;have:=congrArg (c ^^^ ·) h;simp only[<-Nat.xor_assoc,Nat.xor_self,Nat.zero_xor]at this;exact UInt8.toNat_inj.1 this
theorem Jg:∀(l:List UInt8){c d:Nat},c<4294967296->d<4294967296->crcL c l=crcL d l->c=d:=by
 intro l
 induction l with
 |nil=>intro c d _ _ h;exact h
 |cons a l ih=>intro c d hc hd h;exact Jd hc hd a (ih (Cn hc a) (Cn hd a) h)
theorem Jh (l:List UInt8)(i:Nat)(b:UInt8)(hi:i<l.length){c:Nat}(hc:c<4294967296)(h:crcL c l=crcL c (l.set i b)):l[i]=b:=by
 have e1:l=l.take i++l[i]::l.drop (i+1):=by rw[<-List.drop_eq_getElem_cons hi,List.take_append_drop]
 have e2:l.set i b=l.take i++b::l.drop (i+1):=by rw[List.set_eq_take_append_cons_drop,if_pos hi]
 rw[e2]at h
 conv at h=>lhs;rw[e1]
 rw[DK,DK]at h;have hc':=Bt (l.take i) hc;exact Je hc' _ _ (Jg (l.drop (i+1)) (Cn hc' _) (Cn hc' _) h)
theorem EP {a b:Nat}(ha:a<4294967296)(hb:b<4294967296)(h:be 4 a=be 4 b):a=b:=by
 simp only[be,List.cons.injEq,and_true]at h;obtain⟨h1,h2,h3,h4⟩:=h;have g:∀{x y:Nat},UInt8.ofNat x=UInt8.ofNat y->x%256=y%256:=fun {x y} h=>by
  have:=congrArg UInt8.toNat h;rwa [UInt8.toNat_ofNat',UInt8.toNat_ofNat']at this
 have g1:=g h1;have g2:=g h2;have g3:=g h3;have g4:=g h4
 omega
theorem Fe {l:List UInt8}{i:Nat}{b:UInt8}(hi:i<l.length)(h:crcOf l=crcOf (l.set i b)):l[i]=b:=by
 refine Jh l i b hi (c:=4294967295) (by omega) ?_;unfold crcOf crcMore at h;have h1:=Bt l (c:=4294967295-0) (by omega);have h2:=Bt (l.set i b) (c:=4294967295-0) (by omega);rw[Nat.sub_zero]at h h1 h2;omega
def incr:List Int->Bool
 |a::b::l=>decide (a<b)&&incr (b::l)
 |_=>true
theorem FK (l:List Int):incr l=true↔∀i (h:i+1<l.length),l[i]<l[i+1]:=by
 induction l with
 |nil=>simp[incr]
 |cons a l ih=>
  cases l with
  |nil=>simp[incr]
  |cons b l=>
   simp only[incr,Bool.and_eq_true,decide_eq_true_eq,ih];constructor
   · rintro⟨h1,h2⟩ i hi;cases i with
     |zero=>exact h1
     |succ i=>exact h2 i (by simpa using hi)
   · intro h;exact⟨h 0 (by simp),fun i hi=>h (i+1) (by simpa using hi)⟩
namespace Dk
def sz (D:Dk):Nat:=D.data.length/64
def there (D:Dk)(k:Int):Bool:=decide (0<=k)&&decide (k<D.sz)
def putOk (D:Dk)(x:Int×List UInt8):Bool:=D.there x.1&&decide (x.2.length=64)
def fit (D:Dk):Bool:=decide (1<=D.sz)&&(decide (D.sz<=1024)&&(decide (D.data.length%64=0)&&(decide (D.cache.length<=4096)&&(D.cache.all D.putOk&&(D.bad.all D.there&&incr D.bad)))))
theorem fit_no_put {D:Dk}{i:Nat}(hi:i<D.cache.length)(h:D.putOk D.cache[i]=false):D.fit=false:=by
 have:D.cache.all D.putOk=false:=by
  rw[List.all_eq_false];exact⟨D.cache[i],List.getElem_mem hi,by simp[h]⟩
 simp[fit,this]
theorem fit_no_bad {D:Dk}{i:Nat}(hi:i<D.bad.length)(h:D.there D.bad[i]=false):D.fit=false:=by
 have:D.bad.all D.there=false:=by
  rw[List.all_eq_false];exact⟨D.bad[i],List.getElem_mem hi,by simp[h]⟩
 simp[fit,this]
theorem fit_no_incr {D:Dk}{i:Nat}(hi:i<D.bad.length)(h0:0<i)(h:D.bad[i]<=D.bad[i-1]):D.fit=false:=by
 have:incr D.bad=false:=by
  rw[<-Bool.not_eq_true,FK];intro hh;have:=hh (i-1) (by omega);simp only[show i-1+1=i by omega]at this;omega
 simp[fit,this]
theorem fit_yes {D:Dk}(h1:1<=D.sz)(h2:D.sz<=1024)(h3:D.data.length%64=0)(h4:D.cache.length<=4096)(h5:∀i (h:i<D.cache.length),D.putOk D.cache[i]=true)
 (h6:∀i (h:i<D.bad.length),D.there D.bad[i]=true) (h7:∀i (h:i<D.bad.length),0<i->D.bad[i-1]<D.bad[i]):D.fit=true:=by
 have a5:D.cache.all D.putOk=true:=by
  rw[List.all_eq_true];intro x hx;obtain⟨i,hi,rfl⟩:=List.getElem_of_mem hx;exact h5 i hi
 have a6:D.bad.all D.there=true:=by
  rw[List.all_eq_true];intro x hx;obtain⟨i,hi,rfl⟩:=List.getElem_of_mem hx;exact h6 i hi
 have a7:incr D.bad=true:=(FK _).2 fun i hi=>by have:=h7 (i+1) hi (by omega);simpa using this
 simp only[fit,a5,a6,a7,decide_eq_true_eq,Bool.and_eq_true,and_true];exact⟨h1,h2,h3,h4⟩
def same (D E:Dk):Bool:=decide (D.data=E.data/\D.cache=E.cache/\D.fuse=E.fuse/\D.off=E.off/\D.bad=E.bad)
theorem same_self (D:Dk):D.same D=true:=by simp[same]
theorem same_no {D E:Dk}(h:D.data≠E.data\/D.cache.length≠E.cache.length\/D.fuse≠E.fuse\/D.off≠E.off\/D.bad.length≠E.bad.length):D.same E=false:=by
 rw[same,decide_eq_false_iff_not];rintro⟨h1,h2,h3,h4,h5⟩;rw[h1,h2,h3,h4,h5]at h;simp at h
theorem same_no_cache {D E:Dk}(i:Nat)(h1:i<D.cache.length)(h2:i<E.cache.length)(h:D.cache[i]≠E.cache[i]):D.same E=false:=by
 rw[same,decide_eq_false_iff_not];rintro⟨_,e,_⟩;exact h (by simp only[e])
theorem same_no_bad {D E:Dk}(i:Nat)(h1:i<D.bad.length)(h2:i<E.bad.length)(h:D.bad[i]≠E.bad[i]):D.same E=false:=by
 rw[same,decide_eq_false_iff_not];rintro⟨_,_,_,_,e⟩;exact h (by simp only[e])
theorem same_yes {D E:Dk}(h1:D.data=E.data)(h2:D.cache.length=E.cache.length)(h3:D.fuse=E.fuse)(h4:D.off=E.off)(h5:D.bad.length=E.bad.length)
 (h6:∀i (a:i<D.cache.length)(b:i<E.cache.length),D.cache[i]=E.cache[i]) (h7:∀i (a:i<D.bad.length)(b:i<E.bad.length),D.bad[i]=E.bad[i]):D.same E=true:=by
 rw[same,decide_eq_true_eq];exact⟨h1,List.ext_getElem h2 (fun i a b=>h6 i a b),h3,h4,List.ext_getElem h5 (fun i a b=>h7 i a b)⟩
def seesIn:List (Int×List UInt8)->Int->Option (List UInt8)
 |[],_=>none
 |x::l,k=>match seesIn l k with
  |some s=>some s
  |none=>if x.1=k then some x.2 else none
def sector (D:Dk)(k:Nat):List UInt8:=(D.data.take ((k+1)*64)).drop (k*64)
def sees (D:Dk)(k:Int):List UInt8:=(seesIn D.cache k).getD (D.sector k.toNat)
def lastN (D:Dk)(keep:Nat->Bool):Nat->List UInt8
 |0=>D.data
 |n+1=>match D.cache[n]? with
  |some x=>if keep n then over (D.lastN keep n) (x.1.toNat*64) x.2 else D.lastN keep n
  |none=>D.lastN keep n
def last (D:Dk)(keep:Nat->Bool):List UInt8:=D.lastN keep D.cache.length
theorem lastN_succ (D:Dk)(keep:Nat->Bool)(n:Nat)(h:n<D.cache.length):D.lastN keep (n+1)=if keep n then over (D.lastN keep n) (D.cache[n].1.toNat*64) D.cache[n].2 else D.lastN keep n:=by
 rw[lastN,List.getElem?_eq_getElem h]
theorem fit_parts {D:Dk}(h:D.fit=true):1<=D.sz/\D.sz<=1024/\D.data.length=D.sz*64/\D.cache.length<=4096/\(∀i (h:i<D.cache.length),0<=D.cache[i].1/\D.cache[i].1<D.sz/\D.cache[i].2.length=64)/\
 (∀i (h:i<D.bad.length),0<=D.bad[i]/\D.bad[i]<D.sz)/\incr D.bad=true:=by
 simp only[fit,Bool.and_eq_true,decide_eq_true_eq,List.all_eq_true,putOk,there]at h;obtain⟨h1,h2,h3,h4,h5,h6,h7⟩:=h;refine⟨h1,h2,?_,h4,fun i hi=>?_,fun i hi=>?_,h7⟩
 · have:=Nat.div_add_mod D.data.length 64;rw[h3]at this;show _=D.data.length/64*64;omega
 · have:=h5 _ (List.getElem_mem hi);exact⟨this.1.1,this.1.2,this.2⟩
 · exact h6 _ (List.getElem_mem hi)
theorem lastN_length {D:Dk}(h:D.fit=true)(keep:Nat->Bool)(n:Nat):(D.lastN keep n).length=D.sz*64:=by
 obtain⟨h1,h2,h3,h4,h5,_⟩:=fit_parts h
 induction n with
 |zero=>exact h3
 |succ n ih=>
  rw[lastN]
  split
  · rename_i x hx
    obtain⟨hn,rfl⟩:=List.getElem?_eq_some_iff.1 hx;obtain⟨a,b,c⟩:=h5 n hn
    split
    · rw[Da _ _ _ (by rw[ih,c];omega),ih]
    · exact ih
  · exact ih
theorem seesIn_none {l:List (Int×List UInt8)}{k:Int}(h:∀j (hj:j<l.length),l[j].1≠k):seesIn l k=none:=by
 induction l with
 |nil=>rfl
 |cons x l ih=>
  have h1:=ih (fun j hj=>h (j+1) (by simpa using hj));have h0:=h 0 (by simp);simp only[List.getElem_cons_zero]at h0;simp[seesIn,h1,h0]
theorem seesIn_some {l:List (Int×List UInt8)}{k:Int}{i:Nat}(hi:i<l.length)(he:l[i].1=k)(h:∀j (hj:j<l.length),i<j->l[j].1≠k):seesIn l k=some l[i].2:=by
 induction l generalizing i with
 |nil=>simp at hi
 |cons x l ih=>
  cases i with
  |zero=>
   have h1:=seesIn_none (l:=l) (k:=k) (fun j hj=>by have:=h (j+1) (by simpa using hj) (by omega);simpa using this);simp only[List.getElem_cons_zero]at he ⊢;simp[seesIn,h1,he]
  |succ i=>
   have h1:=ih (i:=i) (by simpa using hi) (by simpa using he) (fun j hj hij=>by have:=h (j+1) (by simpa using hj) (by omega);simpa using this);simp[seesIn,h1]
def burnt (D:Dk):Dk:={D with fuse:=if 0<D.fuse then D.fuse-1 else D.fuse}
def write (D:Dk)(k:Int)(s:List UInt8):Dk×Int:=
 if D.off=true then(D,12)else if D.there k=false then(D,10)else if s.length≠64 then(D,11)else if D.fuse=0 then({D with off:=true},12)
 else if k∈D.bad then(D,13)else if 4096<=D.cache.length then(D,16)else(({D with cache:=D.cache++[(k,s)]}:Dk).burnt,0)
def read (D:Dk)(k:Int):List UInt8×Int:=
 if D.off=true then([],12)else if D.there k=false then([],10)else if k∈D.bad then([],13)else(D.sees k,0)
def flush (D:Dk):Dk×Int:=
 if D.off=true then(D,12)else if D.fuse=0 then({D with off:=true},12)else(({D with data:=D.last fun _=>true,cache:=[]}:Dk).burnt,0)
def fresh (n:Int):Dk×Int:=if n<1\/1024<n then(⟨[],[],0,false,[]⟩,11)else(⟨List.replicate (64*n.toNat) 0,[],-1,false,[]⟩,0)
end Dk
end
section
namespace Dk
def secOf (l:List UInt8)(k:Nat):List UInt8:=(l.take ((k+1)*64)).drop (k*64)
theorem sector_eq (D:Dk)(k:Nat):D.sector k=secOf D.data k:=rfl
theorem GN {l:List UInt8}{k:Nat}(h:(k+1)*64<=l.length){i:Nat}(hi:i<64):(secOf l k)[i]? =l[k*64+i]? :=by
 rw[secOf,List.getElem?_drop,List.getElem?_take,if_pos (by omega)]
theorem GO {l:List UInt8}{k:Nat}(h:(k+1)*64<=l.length):(secOf l k).length=64:=by
 rw[secOf,List.length_drop,List.length_take];omega
theorem GM {l:List UInt8}{k:Nat}{t:List UInt8}(h:(k+1)*64<=l.length)(ht:t.length=64)(he:∀i,i<64->l[k*64+i]? =t[i]?):secOf l k=t:=by
 apply List.ext_getElem?
 intro i;by_cases hi:i<64
 · rw[GN h hi,he i hi]
 · rw[List.getElem?_eq_none (by rw[GO h];omega),List.getElem?_eq_none (by omega)]
theorem N6 {l:List UInt8}{k:Nat}{t:List UInt8}(h:(k+1)*64<=l.length)(ht:t.length=64):secOf (over l (k*64) t) k=t:=by
 have hl:(over l (k*64) t).length=l.length:=Da _ _ _ (by omega);refine GM (by omega) ht fun i hi=>?_
 rw[C9 _ _ _ _ (by omega),if_pos (by omega)]
 congr 1;omega
theorem N5 {l:List UInt8}{j k:Nat}{t:List UInt8}(h:(k+1)*64<=l.length)(hj:(j+1)*64<=l.length)(ht:t.length=64)(hne:j≠k):secOf (over l (j*64) t) k=secOf l k:=by
 have hl:(over l (j*64) t).length=l.length:=Da _ _ _ (by omega);refine GM (by omega) (GO h) fun i hi=>?_
 rw[C9 _ _ _ _ (by omega),if_neg (by omega),GN h hi]
theorem Ob (l:List (Int×List UInt8))(x:Int×List UInt8)(k:Int):seesIn (l++[x]) k=if x.1=k then some x.2 else seesIn l k:=by
 induction l with
 |nil=>simp[seesIn]
 |cons y l ih=>
  simp only[List.cons_append,seesIn,ih]
  split<;>rename_i h
  · split at h
    · rename_i h1;rw[if_pos h1,<-h]
    · rename_i h1;rw[if_neg h1,h]
  · split at h
    · cases h
    · rename_i h1;rw[if_neg h1,h]
theorem Lh {D:Dk}(hf:D.fit=true){k:Nat}(hk:k<D.sz)(n:Nat)(hn:n<=D.cache.length):secOf (D.lastN (fun _=>true) n) k=(seesIn (D.cache.take n) k).getD (D.sector k):=by
 obtain⟨_,_,hl,_,hc,_⟩:=fit_parts hf
 induction n with
 |zero=>simp[lastN,seesIn,sector_eq]
 |succ n ih=>
  have ih:=ih (by omega);have hL:=lastN_length hf (fun _=>true) n;obtain⟨c1,c2,c3⟩:=hc n (by omega);have hb:(D.cache[n].1.toNat+1)*64<=D.sz*64:=Nat.mul_le_mul_right _ (by omega);have hb':(k+1)*64<=D.sz*64:=Nat.mul_le_mul_right _ (by omega);rw[lastN_succ _ _ _ (by omega),if_pos rfl,List.take_succ_eq_append_getElem (by omega),Ob];by_cases h:D.cache[n].1=k
  · rw[if_pos h];have e:D.cache[n].1.toNat=k:=by omega
    rw[e,N6 (by omega) c3];rfl
  · rw[if_neg h,N5 (by omega) (by omega) c3 (by omega),ih]
theorem last_sees {D:Dk}(hf:D.fit=true){k:Nat}(hk:k<D.sz):secOf (D.last fun _=>true) k=D.sees k:=by
 rw[last,Lh hf hk _ (Nat.le_refl _),List.take_length,sees,Int.toNat_natCast]
theorem Fx {D E:Dk}(h:D.fit=true)(h1:E.data.length=D.data.length)(h2:E.cache=D.cache)(h3:E.bad=D.bad):E.fit=true:=by
 have e:E.sz=D.sz:=by unfold sz;rw[h1]
 have e2:∀k,E.there k=D.there k:=fun k=>by unfold there;rw[e]
 have e3:∀x,E.putOk x=D.putOk x:=fun x=>by unfold putOk;rw[e2]
 unfold fit at h ⊢;rw[e,h1,h2,h3,show E.putOk=D.putOk from funext e3,show E.there=D.there from funext e2];exact h
theorem Kl {D E:Dk}(h:D.fit=true)(h1:E.data.length=D.data.length)(h2:E.cache=[])(h3:E.bad=D.bad):E.fit=true:=by
 obtain⟨a,b,c,d,e,f,g⟩:=fit_parts h;have e':E.sz=D.sz:=by unfold sz;rw[h1]
 have:=h;simp only[fit,Bool.and_eq_true,decide_eq_true_eq]at this ⊢;obtain⟨t1,t2,t3,t4,t5,t6,t7⟩:=this;have e2:E.there=D.there:=funext fun k=>by unfold there;rw[e']
 rw[e',h1,h2,h3,e2];exact⟨t1,t2,t3,by simp,by simp,t6,t7⟩
theorem DG (D:Dk):D.burnt.cache=D.cache:=rfl
theorem Kn {D:Dk}(h:D.fit=true)(hl:D.cache.length<4096){k:Int}{s:List UInt8}(hk:D.there k=true)(hs:s.length=64):(({D with cache:=D.cache++[(k,s)]}:Dk).burnt).fit=true:=by
 have:=h;simp only[fit,Bool.and_eq_true,decide_eq_true_eq,List.all_eq_true]at this ⊢;obtain⟨t1,t2,t3,t4,t5,t6,t7⟩:=this;have e2:((({D with cache:=D.cache++[(k,s)]}:Dk).burnt)).there=D.there:=rfl;refine⟨t1,t2,t3,?_,fun x hx=>?_,t6,t7⟩
 · simp only[DG,List.length_append,List.length_singleton];omega
 · simp only[DG,List.mem_append,List.mem_singleton]at hx;unfold putOk;rw[e2]
   rcases hx with hx|rfl
   · exact t5 x hx
   · simp[hk,hs]
end Dk
end
section
namespace Dk
def put (D:Dk)(k:Int)(s:List UInt8):Dk:=({D with cache:=D.cache++[(k,s)]}:Dk).burnt
variable {D:Dk} {k:Int} {s:List UInt8}
theorem Df (D:Dk)(k:Int)(s:List UInt8):(D.put k s).cache=D.cache++[(k,s)]:=rfl
theorem Ks (W:Dk)(h:W.off=false):W.flush=({W with off:=true},12)\/W.flush=(({W with data:=W.last fun _=>true,cache:=[]}:Dk).burnt,0):=by
 unfold flush;rw[if_neg (by simp[h])];by_cases h2:W.fuse=0
 · rw[if_pos h2];exact .inl rfl
 · rw[if_neg h2];exact .inr rfl
theorem flushed_fit {W:Dk}(h:W.fit=true)(keep:Nat->Bool):(({W with data:=W.last keep,cache:=[]}:Dk).burnt).fit=true:=by
 refine Kl h ?_ rfl rfl;have:=lastN_length h keep W.cache.length;obtain⟨_,_,hl,_⟩:=fit_parts h;show(W.last keep).length=_;rw[hl];exact this
end Dk
end
section
open Go.RowKit Go.Shelf
def Off (g:Nat)(A:Option Addr)(n:Nat):Prop:=n=0\/∀b off,A=some ⟨b,off,none⟩->b≠g
theorem AX {w:World}{base g:Nat}{e:TypeId}{size n c m:Nat}{A:Option Addr}{xs:List Value}(h:w.ownsRow base e size (.slice A m c) n xs)(hg:g<base):Off g A m:=by
 refine .inr fun b off e=>?_
 subst e
 rcases h.2 with ⟨h',_⟩|⟨g',cap,cur,h',hb,_⟩
 · cases h'
 · injection h' with h'
   injection h' with h'
   injection h' with h'
   omega
theorem BZ {w:World}{A:Option Addr}{cs:List Value}(h:Cells w A cs){n g:Nat}(hn:n<=cs.length)(hg:w.heap.size<=g):Off g A n:=by
 by_cases h0:n=0
 · exact .inl h0
 · refine .inr fun b off e=>?_
   rcases h with h|⟨b',off',e',hc⟩
   · rw[h]at hn;simp at hn;omega
   · rw[e]at e';injection e' with e'
     injection e' with e'
     subst e';have hl:0<cs.length:=by omega
     have:=AZ (hc 0 cs[0] (by rw[List.getElem?_eq_getElem hl]));simp only at this;omega
theorem Cells.off {w:World}{A:Option Addr}{cs:List Value}(h:Cells w A cs){p:Addr}{n:Nat}(ho:Off p.block A n)(hn:n=0->cs=[])(v:Value):Cells (w.setCell p v) A cs:=by
 rcases ho with h0|ho
 · exact .inl (hn h0)
 · exact h.setCell ho v
def DkOff (g:Nat)(D:Dk)(p q:Pl):Prop:=Off g p.a D.cache.length/\Off g q.a D.bad.length
theorem IsDk.off {w:World}{D:Dk}{p q:Pl}(h:IsDk w D p q){a:Addr}(ho:DkOff a.block D p q)(v:Value):IsDk (w.setCell a v) D p q:=
 {h with cache:=h.cache.off ho.1 (fun e=>by rw[List.length_eq_zero_iff.1 e];rfl) v,bad:=h.bad.off ho.2 (fun e=>by rw[List.length_eq_zero_iff.1 e];rfl) v}
theorem IsDk.o1 {B:Nat}{u W:World}{a:Addr}{v:Value}{D:Dk}{p q:Pl}(h:IsDk W D p q)(hb:Below B u (W.setCell a v))(ho:DkOff a.block D p q:=by first|assumption|omega):IsDk (W.setCell a v) D p q:=h.off ho v
theorem IsDk.apart {w:World}{D:Dk}{p q:Pl}(h:IsDk w D p q){g:Nat}(hg:w.heap.size<=g):DkOff g D p q:=
 ⟨BZ h.cache (by rw[Cb];omega) hg,BZ h.bad (by rw[Cr];exact Nat.le_refl _) hg⟩
def RetDkN (B:Nat)(D:Dk)(p q:Pl)(X:Dk×Int)(e:Ending)(w:World):Prop:=
 ∃p' q',e=.returned (.tuple #[dval X.1 p' q',.int .i64 X.2])/\IsDk w X.1 p' q'/\∀g,g<B->DkOff g D p q->DkOff g X.1 p' q'
theorem RetDkN.ret {B:Nat}{D:Dk}{p q:Pl}{X:Dk×Int}{e:Ending}{w:World}(h:RetDkN B D p q X e w):RetDk X e w:=by
 obtain⟨p',q',he,hi,_⟩:=h;exact⟨p',q',he,hi⟩
structure Pn where
 targets:List Int
 data:List (List UInt8)
abbrev pval (L:Pn)(p q:Pl):Value:=.agg #[.slice p.a L.targets.length p.c,.slice q.a L.data.length q.c]
structure IsPn (w:World) (L:Pn) (p q:Pl):Prop where
 targets:Cells w p.a (intCells L.targets)
 data:Cells w q.a (strCells L.data)
 pn:p.a=none->p.c=0
 qn:q.a=none->q.c=0
 pc:L.targets.length<=p.c
 qc:L.data.length<=q.c
 pm:p.c<=maxLen
 qm:q.c<=maxLen
 ats:∀x∈L.targets,-9223372036854775808<=x/\x<=9223372036854775807
 strs:∀x∈L.data,x.length<=9223372036854775807
theorem IsPn.below {w w':World}{L:Pn}{p q:Pl}(h:IsPn w L p q)(hb:Below w.heap.size w w'):IsPn w' L p q:=
 {h with targets:=h.targets.below hb,data:=h.data.below hb}
theorem AQ (w:World):IsPn w ⟨[],[]⟩ ⟨none,0⟩ ⟨none,0⟩:=
 ⟨.inl rfl,.inl rfl,fun _=>rfl,fun _=>rfl,Nat.le_refl _,Nat.le_refl _,Nat.zero_le _,Nat.zero_le _,fun _ h=>(by cases h),fun _ h=>(by cases h)⟩
def PnOff (g:Nat)(L:Pn)(p q:Pl):Prop:=Off g p.a L.targets.length/\Off g q.a L.data.length
theorem IsPn.off {w:World}{L:Pn}{p q:Pl}(h:IsPn w L p q){a:Addr}(ho:PnOff a.block L p q)(v:Value):IsPn (w.setCell a v) L p q:=
 {h with targets:=h.targets.off ho.1 (fun e=>by rw[List.length_eq_zero_iff.1 e];rfl) v,data:=h.data.off ho.2 (fun e=>by rw[List.length_eq_zero_iff.1 e];rfl) v}
theorem IsPn.o1 {B:Nat}{u W:World}{a:Addr}{v:Value}{D:Pn}{p q:Pl}(h:IsPn W D p q)(hb:Below B u (W.setCell a v))(ho:PnOff a.block D p q:=by first|assumption|omega):IsPn (W.setCell a v) D p q:=h.off ho v
theorem IsPn.apart {w:World}{L:Pn}{p q:Pl}(h:IsPn w L p q){g:Nat}(hg:w.heap.size<=g):PnOff g L p q:=
 ⟨BZ h.targets (by rw[Cr];exact Nat.le_refl _) hg,BZ h.data (by rw[strCells_length];exact Nat.le_refl _) hg⟩
def RetPn (B:Nat)(L:Pn)(p q:Pl)(X:Pn×Int)(e:Ending)(w:World):Prop:=
 ∃p' q',e=.returned (.tuple #[pval X.1 p' q',.int .i64 X.2])/\IsPn w X.1 p' q'/\∀g,g<B->PnOff g L p q->PnOff g X.1 p' q'
def sectorOk (k:Int):Bool:=decide (0<=k)&&decide (k<1024)
namespace Pn
def find (L:Pn)(k:Int):Int:=if k∈L.targets then((L.targets.idxOf k:Nat):Int)else-1
theorem find_hit {L:Pn}{k:Int}{i:Nat}(hi:i<L.targets.length)(h:L.targets[i]=k)(hne:∀j (hj:j<L.targets.length),j<i->L.targets[j]≠k):L.find k=i:=by
 have hm:k∈L.targets:=h▸List.getElem_mem hi;rw[find,if_pos hm];have h1:=List.idxOf_lt_length_iff.2 hm;have h2:=List.getElem_idxOf h1
 congr 1
 rcases Nat.lt_trichotomy (L.targets.idxOf k) i with h3|h3|h3
 · exact absurd h2 (hne _ h1 h3)
 · exact h3
 · exfalso
   have:=List.not_of_lt_findIdx (show i<List.findIdx (· ==k) L.targets from h3);rw[h]at this;simp at this
theorem find_miss {L:Pn}{k:Int}(hne:∀j (hj:j<L.targets.length),L.targets[j]≠k):L.find k= -1:=by
 rw[find,if_neg];intro hm;obtain⟨j,hj,e⟩:=List.getElem_of_mem hm;exact hne j hj e
theorem find_in {L:Pn}{k:Int}(h:k∈L.targets):∃i:Nat,∃hi:i<L.targets.length,L.find k=i/\L.targets[i]=k/\L.targets.idxOf k=i:=by
 have h1:=List.idxOf_lt_length_iff.2 h;exact⟨_,h1,by rw[find,if_pos h],List.getElem_idxOf h1,rfl⟩
theorem find_out {L:Pn}{k:Int}(h:k∉L.targets):L.find k= -1:=by rw[find,if_neg h]
def Fit (L:Pn):Prop:=L.targets.length=L.data.length/\L.targets.length<=24/\(∀i (h:i<L.targets.length),sectorOk L.targets[i]=true/\L.find L.targets[i]=i)/\∀i (h:i<L.data.length),L.data[i].length=64
open Classical in
noncomputable def fit (L:Pn):Bool:=decide L.Fit
theorem fit_iff {L:Pn}:L.fit=true↔L.Fit:=by simp[fit]
theorem fit_no {L:Pn}(h:¬L.Fit):L.fit=false:=by simp[fit,h]
def same (L M:Pn):Bool:=decide (L.targets=M.targets)&&decide (L.data=M.data)
theorem same_self (L:Pn):L.same L=true:=by simp[same]
def look (D:Dk)(L:Pn)(k:Int):List UInt8×Int:=if k∈L.targets then(L.data.getD (L.targets.idxOf k) [],0)else D.read k
def set (L:Pn)(k:Int)(s:List UInt8):Pn×Int:=
 if sectorOk k=false then(L,10)else if s.length≠64 then(L,11)else if k∈L.targets then(⟨L.targets,L.data.set (L.targets.idxOf k) s⟩,0)
 else if 24<=L.targets.length then(L,16)else(⟨L.targets++[k],L.data++[s]⟩,0)
def laidOver (b:List UInt8)(o:Int)(s:List UInt8):List UInt8×Int:=if o<0\/(b.length:Int)-s.length<o then([],10)else(over b o.toNat s,0)
def patch (D:Dk)(L:Pn)(k o:Int)(s:List UInt8):Pn×Int:=
 if(look D L k).2≠0 then(L,(look D L k).2)else if(laidOver (look D L k).1 o s).2≠0 then(L,(laidOver (look D L k).1 o s).2)else set L k (laidOver (look D L k).1 o s).1
end Pn
end
section
namespace Pn
theorem GY {L:Pn}{k:Int}{s:List UInt8}(h:(L.set k s).2≠0):(L.set k s).1=L:=by
 revert h
 rw[set]
 split
 · intro _;rfl
 · split
   · intro _;rfl
   · split
     · intro h;exact absurd rfl h
     · split
       · intro _;rfl
       · intro h;exact absurd rfl h
theorem Ew {L:Pn}{k:Int}{s:List UInt8}(h:(L.set k s).2=0):sectorOk k=true/\s.length=64/\
 ((k∈L.targets/\(L.set k s).1=⟨L.targets,L.data.set (L.targets.idxOf k) s⟩)\/(k∉L.targets/\L.targets.length<24/\(L.set k s).1=⟨L.targets++[k],L.data++[s]⟩)):=by
 revert h
 rw[set]
 split
 · intro h;simp at h
 · rename_i h1
   split
   · intro h;simp at h
   · rename_i h2
     split
     · rename_i h3
       intro _;exact⟨by simpa using h1,by simpa using h2,.inl ⟨h3,rfl⟩⟩
     · rename_i h3
       split
       · intro h;simp at h
       · rename_i h4
         intro _;exact⟨by simpa using h1,by simpa using h2,.inr ⟨h3,by omega,rfl⟩⟩
theorem Kh (L M:Pn)(h:L.targets=M.targets)(k:Int):L.find k=M.find k:=by rw[find,find,h]
theorem Kk {l:List Int}{k x:Int}{a b:List (List UInt8)}(hx:x∈l):find ⟨l++[k],a⟩ x=find ⟨l,b⟩ x:=by
 rw[find,find];simp only[if_pos (List.mem_append_left [k] hx),if_pos hx];rw[List.idxOf_append,if_pos hx]
theorem Ki {l:List Int}{k:Int}{a:List (List UInt8)}(hx:k∉l):find ⟨l++[k],a⟩ k=l.length:=by
 rw[find];simp only[if_pos (List.mem_append_right l (List.mem_singleton.2 rfl))];rw[List.idxOf_append,if_neg hx];simp
theorem set_fit {L:Pn}(h:L.Fit)(k:Int)(s:List UInt8):(L.set k s).1.Fit:=by
 by_cases h0:(L.set k s).2=0
 · obtain⟨h1,h2,⟨h3,e⟩|⟨h3,h4,e⟩⟩:=Ew h0
   · rw[e];refine⟨by simpa using h.1,h.2.1,fun i hi=>?_,fun i hi=>?_⟩
     · have:=h.2.2.1 i hi;exact⟨this.1,(Kh _ L rfl _).trans this.2⟩
     · simp only[List.length_set]at hi;simp only[List.getElem_set]
       split
       · exact h2
       · exact h.2.2.2 i hi
   · rw[e];refine⟨by simpa using h.1,by simp;omega,fun i hi=>?_,fun i hi=>?_⟩
     · simp only[List.length_append,List.length_singleton]at hi
       rcases Nat.lt_or_ge i L.targets.length with hl|hl
       · simp only[List.getElem_append_left hl];have:=h.2.2.1 i hl;exact⟨this.1,(Kk (List.getElem_mem hl)).trans this.2⟩
       · obtain rfl:i=L.targets.length:=by omega
         simp only[List.getElem_append_right (Nat.le_refl _),Nat.sub_self,List.getElem_singleton];exact⟨h1,Ki h3⟩
     · simp only[List.length_append,List.length_singleton]at hi
       rcases Nat.lt_or_ge i L.data.length with hl|hl
       · simp only[List.getElem_append_left hl];exact h.2.2.2 i hl
       · obtain rfl:i=L.data.length:=by omega
         simp only[List.getElem_append_right (Nat.le_refl _),Nat.sub_self,List.getElem_singleton];exact h2
 · rw[GY h0];exact h
theorem CX {L:Pn}(h:L.Fit){k:Int}{s:List UInt8}(h0:(L.set k s).2=0)(D:Dk):look D (L.set k s).1 k=(s,0)/\∀o,o≠k->look D (L.set k s).1 o=look D L o:=by
 obtain⟨h1,h2,⟨h3,e⟩|⟨h3,h4,e⟩⟩:=Ew h0
 · obtain⟨i,hi,f1,f2,f3⟩:=find_in h3;have hd:i<L.data.length:=by rw[<-h.1];exact hi
   rw[e,f3];refine⟨?_,fun o ho=>?_⟩
   · rw[look];simp only[if_pos h3,f3];rw[List.getD_eq_getElem?_getD,List.getElem?_set_self hd];rfl
   · rw[look,look];by_cases hm:o∈L.targets
     · obtain⟨j,hj,g1,g2,g3⟩:=find_in hm;simp only[if_pos hm,g3];have:i≠j:=by rintro rfl;exact ho (g2.symm.trans f2)
       rw[List.getD_eq_getElem?_getD,List.getD_eq_getElem?_getD,List.getElem?_set_ne this]
     · simp only[if_neg hm]
 · rw[e];refine⟨?_,fun o ho=>?_⟩
   · rw[look];simp only[if_pos (List.mem_append_right L.targets (List.mem_singleton.2 rfl))];rw[List.idxOf_append,if_neg h3];simp[h.1,List.getD_eq_getElem?_getD]
   · rw[look,look];by_cases hm:o∈L.targets
     · obtain⟨j,hj,g1,g2,g3⟩:=find_in hm;simp only[if_pos hm,if_pos (List.mem_append_left [k] hm)];rw[List.idxOf_append,if_pos hm,g3,List.getD_eq_getElem?_getD,List.getD_eq_getElem?_getD,List.getElem?_append_left (by rw[<-h.1];exact hj)]
     · have:o∉L.targets++[k]:=by simp[hm,ho]
       simp only[if_neg hm,if_neg this]
end Pn
end
section
namespace Pn
theorem Oi {L X:Pn}{k:Int}{s:List UInt8}(hX:L.set k s=(X,0))(x:Int):x∈X.targets↔x∈L.targets\/x=k:=by
 obtain⟨_,_,⟨h3,e⟩|⟨h3,_,e⟩⟩:=Ew (L:=L) (k:=k) (s:=s) (by rw[hX])
 · rw[hX]at e;have e:X=_:=e;rw[e];constructor
   · exact .inl
   · rintro(h|rfl)
     · exact h
     · exact h3
 · rw[hX]at e;have e:X=_:=e;rw[e];simp
end Pn
end
section
theorem CD (a b:List UInt8):un (a++b)=un a*256^b.length+un b:=by
 have h:∀(l:List UInt8)(n:Nat),l.foldl (fun n c=>n*256+c.toNat) n=n*256^l.length+un l:=by
  intro l
  induction l with
  |nil=>intro n;simp[un]
  |cons c l ih=>
   intro n;rw[List.foldl_cons,ih];show _=n*256^(l.length+1)+un (c::l);have e:un (c::l)=(0*256+c.toNat)*256^l.length+un l:=by rw[un,List.foldl_cons,ih]
   rw[e,Nat.pow_succ,Nat.add_mul];simp only[Nat.zero_mul,Nat.zero_add];rw[Nat.mul_assoc,Nat.mul_comm 256];omega
 rw[un,List.foldl_append];exact h b _
theorem Ci (k:Nat):∀n:Nat,un (be k n)=n%256^k:=by
 induction k with
 |zero=>intro n;simp[be,un,Nat.mod_one]
 |succ k ih=>
  intro n;have e:be (k+1) n=[UInt8.ofNat (n/256^k)]++be k n:=rfl;rw[e,CD,ih,Aq];have h1:un [UInt8.ofNat (n/256^k)]=n/256^k%256:=by simp[un]
  rw[h1,Nat.pow_succ,Nat.mod_mul];rw[Nat.mul_comm,Nat.add_comm]
def cut (s:List UInt8)(o n:Nat):List UInt8:=(s.drop o).take n
theorem Jq {s:List UInt8}{o n:Nat}(h:o+n<=s.length):(cut s o n).length=n:=by simp[cut];omega
theorem Bu {s:List UInt8}{o n j:Nat}:(cut s o n)[j]? =if j<n then s[o+j]? else none:=by
 unfold cut
 split
 · rename_i h;rw[List.getElem?_take_of_lt h,List.getElem?_drop]
 · rename_i h;rw[List.getElem?_eq_none];simp;omega
theorem Fh {s t:List UInt8}{o:Nat}(h:o+t.length<=s.length):cut (over s o t) o t.length=t:=by
 apply List.ext_getElem?
 intro j;rw[Bu]
 split
 · rename_i hj;rw[C9 _ _ _ _ h,if_pos ⟨by omega,by omega⟩];congr 1;omega
 · rename_i hj;rw[List.getElem?_eq_none];omega
theorem Fi {s t:List UInt8}{o p n:Nat}(h:o+t.length<=s.length)(hp:p+n<=o\/o+t.length<=p):cut (over s o t) p n=cut s p n:=by
 apply List.ext_getElem?
 intro j;rw[Bu,Bu]
 split
 · rename_i hj;rw[C9 _ _ _ _ h,if_neg (by omega)]
 · rfl
theorem Dk.read_full {D:Dk}(hD:D.fit=true){k:Int}(h:(D.read k).2=0):(D.read k).1.length=64:=by
 obtain⟨_,_,hl,_,hc,_⟩:=Dk.fit_parts hD
 revert h
 rw[Dk.read]
 split
 · intro h;simp at h
 · split
   · intro h;simp at h
   · rename_i ht
     split
     · intro h;simp at h
     · intro _;simp only[Dk.there,Bool.and_eq_false_iff,decide_eq_false_iff_not,not_or,Classical.not_not]at ht;show(D.sees k).length=64;rw[Dk.sees];cases h:Dk.seesIn D.cache k with
       |some s=>
        rw[Option.getD_some];clear ht;have:∀(l:List (Int×List UInt8)),(∀i (h:i<l.length),l[i].2.length=64)->Dk.seesIn l k=some s->s.length=64:=by
         intro l
         induction l with
         |nil=>intro _ h;simp[Dk.seesIn]at h
         |cons x l ih=>
          intro hx h;rw[Dk.seesIn]at h
          split at h
          · rename_i s' e
            injection h with h;subst h
            exact ih (fun i hi=>by have:=hx (i+1) (by simpa using hi);simpa using this) e
          · split at h
            · injection h with h;subst h;exact hx 0 (by simp)
            · cases h
        exact this _ (fun i hi=>(hc i hi).2.2) h
       |none=>
        rw[Option.getD_none,Dk.sector,List.length_drop,List.length_take];have h1:k.toNat+1<=D.sz:=by omega
        have h2:(k.toNat+1)*64<=D.data.length:=by rw[hl];exact Nat.mul_le_mul_right 64 h1
        omega
namespace Pn
theorem look_full {D:Dk}{L:Pn}(hD:D.fit=true)(hL:L.Fit){k:Int}(h:(look D L k).2=0):(look D L k).1.length=64:=by
 revert h
 rw[look]
 split
 · rename_i hm
   intro _;obtain⟨i,hi,_,_,e⟩:=find_in hm;have h0:i<L.data.length:=by rw[<-hL.1];exact hi
   rw[e,List.getD_eq_getElem?_getD,List.getElem?_eq_getElem h0];exact hL.2.2.2 i h0
 · exact Dk.read_full hD
theorem Eh {D:Dk}{L X:Pn}{k o:Int}{t:List UInt8}(hD:D.fit=true)(hL:L.Fit)(h:patch D L k o t=(X,0)):
 (look D L k).2=0/\0<=o/\o.toNat+t.length<=64/\L.set k (over (look D L k).1 o.toNat t)=(X,0):=by
 rw[patch]at h
 split at h
 · rename_i h0;injection h with _ h;exact absurd h h0
 · rename_i h0
   have h0:(look D L k).2=0:=by simpa using h0
   have hl:=look_full hD hL h0;by_cases h2:o<0\/((look D L k).1.length:Int)-t.length<o
   · rw[laidOver,if_pos h2,if_pos (by simp)]at h;injection h with _ h;simp at h
   · rw[laidOver,if_neg h2,if_neg (by simp)]at h;exact⟨h0,by omega,by omega,h⟩
theorem Gj {D:Dk}{L:Pn}{k o:Int}{t:List UInt8}(h:(patch D L k o t).2≠0):(patch D L k o t).1=L:=by
 revert h
 rw[patch]
 split
 · intro _;rfl
 · split
   · intro _;rfl
   · exact fun h=>GY h
theorem Gi {D:Dk}{L X:Pn}{k o:Int}{t:List UInt8}(hD:D.fit=true)(hL:L.Fit)(h:patch D L k o t=(X,0)):
 X.Fit/\look D X k=(over (look D L k).1 o.toNat t,0)/\(∀j,j≠k->look D X j=look D L j)/\k∈X.targets:=by
 obtain⟨h0,h1,h2,h3⟩:=Eh hD hL h;have hf:=set_fit hL k (over (look D L k).1 o.toNat t);have hs:=CX hL (k:=k) (s:=over (look D L k).1 o.toNat t) (by rw[h3]) D;rw[h3]at hf hs;exact⟨hf,hs.1,hs.2,(Oi h3 k).2 (.inr rfl)⟩
def cntGet (D:Dk)(L:Pn)(k:Int):Int×Int:=
 if k<0\/256<=k then(0,10)else if(look D L (87+k/32)).2≠0 then(0,(look D L (87+k/32)).2)else((un (cut (look D L (87+k/32)).1 (2*(k%32)).toNat 2):Nat),0)
def cntAdd (D:Dk)(L:Pn)(k b:Int):Pn×Int:=
 if(cntGet D L k).2≠0 then(L,(cntGet D L k).2)else if b< -(cntGet D L k).1\/65535-(cntGet D L k).1<b then(L,18)
 else patch D L (87+k/32) (2*(k%32)) (be 2 ((cntGet D L k).1+b).toNat)
theorem cntGet_le (D:Dk)(L:Pn)(k:Int):0<=(cntGet D L k).1/\(cntGet D L k).1<=65535:=by
 rw[cntGet]
 split
 · simp
 · split
   · simp
   · have:=Bm (cut (look D L (87+k/32)).1 (2*(k%32)).toNat 2);have h2:(cut (look D L (87+k/32)).1 (2*(k%32)).toNat 2).length<=2:=by simp[cut];omega
     have h3:=Nat.pow_le_pow_right (show 0<256 by omega) h2;show 0<=((un (cut (look D L (87+k/32)).1 (2*(k%32)).toNat 2):Nat):Int)/\((un (cut (look D L (87+k/32)).1 (2*(k%32)).toNat 2):Nat):Int)<=65535;omega
theorem IU {D:Dk}{L:Pn}{k b:Int}(h:(cntAdd D L k b).2≠0):(cntAdd D L k b).1=L:=by
 revert h
 rw[cntAdd]
 split
 · intro _;rfl
 · split
   · intro _;rfl
   · exact Gj
theorem IV {D:Dk}{L X:Pn}{k b:Int}(hD:D.fit=true)(hL:L.Fit)(h:cntAdd D L k b=(X,0)):
 0<=k/\k<256/\(cntGet D L k).2=0/\ -(cntGet D L k).1<=b/\b<=65535-(cntGet D L k).1/\X.Fit/\cntGet D X k=((cntGet D L k).1+b,0)/\(∀j,j≠k->cntGet D X j=cntGet D L j)/\87+k/32∈X.targets:=by
 have hle:=cntGet_le D L k;rw[cntAdd]at h
 split at h
 · rename_i h0;injection h with _ h;exact absurd h h0
 · rename_i h0
   have h0:(cntGet D L k).2=0:=by simpa using h0
   split at h
   · injection h with _ h;simp at h
   · rename_i h1
     have hk:¬(k<0\/256<=k):=fun hk=>by rw[cntGet,if_pos hk]at h0;simp at h0
     obtain⟨p1,p2,p3,p4⟩:=Gi hD hL h;obtain⟨q1,q2,q3,_⟩:=Eh hD hL h;have hl:=look_full hD hL q1;rw[Aq]at q3;obtain⟨m,hm⟩:∃m:Nat,(cntGet D L k).1+b=m:=⟨((cntGet D L k).1+b).toNat,by omega⟩;have hm2:m<65536:=by omega
     rw[hm]at p2;simp only[Int.toNat_natCast]at p2;refine⟨by omega,by omega,h0,by omega,by omega,p1,?_,fun j hj=>?_,p4⟩
     · rw[cntGet,if_neg hk,p2];simp only[ne_eq,not_true_eq_false,if_false];have e:=Fh (s:=(look D L (87+k/32)).1) (t:=be 2 m) (o:=(2*(k%32)).toNat) (by rw[Aq,hl];exact q3);rw[Aq]at e;rw[e,Ci,hm,Nat.mod_eq_of_lt (by omega)]
     · rw[cntGet,cntGet];by_cases hj2:j<0\/256<=j
       · rw[if_pos hj2,if_pos hj2]
       · rw[if_neg hj2,if_neg hj2];by_cases hs:j/32=k/32
         · rw[hs,p2,q1];simp only[ne_eq,not_true_eq_false,if_false];rw[Fi (by rw[Aq,hl];exact q3) (by rw[Aq];omega)]
         · rw[p3 _ (by omega)]
end Pn
end
section
def allN {α:Type}(f:Nat->α×Int):Nat->List α×Int
 |0=>([],0)
 |n+1=>if(allN f n).2≠0 then allN f n else if(f n).2≠0 then([],(f n).2)else((allN f n).1++[(f n).1],0)
section
variable {α:Type} {f:Nat->α×Int}
theorem EN {n:Nat}(h:(allN f n).2=0)(hg:(f n).2=0):allN f (n+1)=((allN f n).1++[(f n).1],0):=by
 rw[allN,if_neg (by rw[h];simp),if_neg (by rw[hg];simp)]
theorem Ig {n:Nat}(h:(allN f n).2=0)(hg:(f n).2≠0):∀m,n<m->allN f m=([],(f n).2):=by
 intro m hm
 induction m with
 |zero=>omega
 |succ m ih=>
  rcases Nat.lt_or_eq_of_le (Nat.le_of_lt_succ hm)with h1|h1
  · rw[allN,ih h1,if_pos hg]
  · subst h1;rw[allN,if_neg (by rw[h];simp),if_pos hg]
theorem Ck {n:Nat}(h:(allN f n).2=0):(allN f n).1.length=n/\∀i:Nat,i<n->(f i).2=0/\(allN f n).1[i]? =some (f i).1:=by
 induction n with
 |zero=>exact⟨rfl,fun i hi=>by omega⟩
 |succ n ih=>
  by_cases h1:(allN f n).2=0
  · by_cases h2:(f n).2=0
    · obtain⟨a,b⟩:=ih h1;rw[EN h1 h2];refine⟨by simp[a],fun i hi=>?_⟩
      rcases Nat.lt_or_eq_of_le (Nat.le_of_lt_succ hi)with h3|h3
      · exact⟨(b i h3).1,by show((allN f n).1++[(f n).1])[i]? =_;rw[List.getElem?_append_left (by omega)];exact(b i h3).2⟩
      · subst h3;exact⟨h2,by show((allN f i).1++[(f i).1])[i]? =_;rw[List.getElem?_append_right (by omega),a];simp⟩
    · rw[allN,if_neg (by rw[h1];simp),if_pos h2]at h;exact absurd h h2
  · rw[allN,if_pos h1]at h;exact absurd h h1
theorem EL {n:Nat}(h:(allN f n).2≠0):(allN f n).1=[]:=by
 induction n with
 |zero=>rfl
 |succ n ih=>
  revert h
  rw[allN]
  split
  · rename_i h1;intro _;exact ih h1
  · split
    · intro _;rfl
    · intro h;exact absurd rfl h
theorem Ie (n:Nat):(allN f n).1.length<=n:=by
 by_cases h:(allN f n).2=0
 · rw[(Ck h).1];exact Nat.le_refl _
 · rw[EL h];exact Nat.zero_le _
theorem CF {n:Nat}(h:∀i:Nat,i<n->(f i).2=0):(allN f n).2=0:=by
 induction n with
 |zero=>rfl
 |succ n ih=>rw[EN (ih (fun i hi=>h i (by omega))) (h n (by omega))]
theorem EM (n:Nat):∀x∈(allN f n).1,∃i,i<n/\x=(f i).1:=by
 intro x hx;by_cases h:(allN f n).2=0
 · obtain⟨a,b⟩:=Ck h;obtain⟨i,hi,rfl⟩:=List.getElem_of_mem hx;have:=(b i (by omega)).2;rw[List.getElem?_eq_getElem hi]at this;injection this with this
   exact⟨i,by omega,this⟩
 · rw[EL h]at hx;cases hx
end
namespace Pn
variable {D:Dk} {L:Pn}
end Pn
end
section
namespace Pn
variable {D:Dk} {L:Pn}
end Pn
end
section
namespace Dk
def layIn:List (Int×List UInt8)->Dk->Dk×Int
 |[],D=>(D,0)
 |x::l,D=>if(D.write x.1 x.2).2≠0 then D.write x.1 x.2 else layIn l (D.write x.1 x.2).1
theorem PZ {D:Dk}{k:Int}{s:List UInt8}:(D.write k s).2=0->(D.write k s).1=D.put k s/\D.off=false/\D.there k=true/\k∉D.bad/\s.length=64/\D.cache.length<4096:=by
 rw[write]
 split
 · intro h;simp at h
 split
 · intro h;simp at h
 split
 · intro h;simp at h
 split
 · intro h;simp at h
 split
 · intro h;simp at h
 split
 · intro h;simp at h
 · rename_i h1 h2 h3 h4 h5 h6
   intro _;exact⟨rfl,by simpa using h1,by simpa using h2,h5,by omega,by omega⟩
end Dk
namespace Pn
def lay (D:Dk)(L:Pn):Dk×Int:=Dk.layIn (L.targets.zip L.data) D
end Pn
end
section
structure Tx where
 seq:Nat
 plan:Pn
def txSize (n:Nat):Nat:=if n=0\/24<n then 0 else n+(n-1)/16+2
def Au (s:List UInt8):List UInt8:=s++List.replicate (64-s.length) 0
def nums (l:List Int):List UInt8:=l.flatMap fun x=>be 4 x.toNat
def magicJ:List UInt8:=[67,79,70,74]
def idxRows (l:List Int):List (List UInt8):=if l.length<=16 then [Au (nums l)]else [Au (nums (l.take 16)),Au (nums (l.drop 16))]
def headRow (h:List UInt8)(n:Nat)(b:List UInt8):List UInt8:=Au (magicJ++h++be 2 (65535-n)++be 4 (crcOf (h++b)))
namespace Tx
def zero:Tx:=⟨0,⟨[],[]⟩⟩
def rest (t:Tx):List (List UInt8):=idxRows t.plan.targets++t.plan.data
def head (t:Tx):List UInt8:=be 8 t.seq++be 2 t.plan.targets.length
def top (t:Tx):List UInt8:=headRow t.head t.plan.targets.length t.rest.flatten
def rows (t:Tx):List (List UInt8):=t.top::t.rest
def Ok (t:Tx):Prop:=t.plan.Fit/\t.plan.targets≠[]
open Classical in
noncomputable def write (t:Tx):List (List UInt8)×Int:=if t.Ok then(t.rows,0)else([],25)
def same (t u:Tx):Bool:=decide (t.seq=u.seq)&&t.plan.same u.plan
end Tx
def hn (s:List UInt8):Nat:=un (cut s 12 2)
def hm (s:List UInt8):Nat:=un (cut s 14 2)
def hcount (s:List UInt8):Nat:=if s.length=64/\magicJ.isPrefixOf s=true/\txSize (hn s)≠0/\hn s+hm s=65535 then hn s else 0
def bodyOf (l:List (List UInt8))(n:Nat):List UInt8:=((l.take n).drop 1).flatten
def parse (l:List (List UInt8))(n:Nat):Tx:=
 ⟨un (cut (l.headD []) 4 8),⟨(List.range n).map fun i=>(un (cut (bodyOf l (txSize n)) (4*i) 4):Int),(l.take (txSize n)).drop (txSize n-n)⟩⟩
open Classical in
noncomputable def txRead (l:List (List UInt8)):Tx×Int:=
 if l=[]then(Tx.zero,22)else if hcount (l.headD [])=0 then(Tx.zero,14)else if l.length<txSize (hcount (l.headD []))then(Tx.zero,22)
 else if∃s∈l.take (txSize (hcount (l.headD []))),s.length≠64 then(Tx.zero,11)
 else if be 4 (crcOf (cut (l.headD []) 4 10++bodyOf l (txSize (hcount (l.headD [])))))≠cut (l.headD []) 16 4 then(Tx.zero,15)
 else if(parse l (hcount (l.headD []))).write=(l.take (txSize (hcount (l.headD []))),0)then(parse l (hcount (l.headD [])),0)else(Tx.zero,14)
theorem Pt {n:Nat}:txSize n≠0↔1<=n/\n<=24:=by unfold txSize;split<;>omega
theorem Ct {s:List UInt8}(h:s.length<=64):(Au s).length=64:=by simp[Au];omega
theorem Bz (l:List Int):(nums l).length=4*l.length:=by
 induction l with
 |nil=>rfl
 |cons a l ih=>simp only[nums,List.flatMap_cons,List.length_append,Aq,List.length_cons]at ih ⊢;omega
theorem Ee (l m:List Int):nums (l++m)=nums l++nums m:=by simp[nums]
theorem DX {l:List Int}(h0:l≠[])(h:l.length<=24):(idxRows l).length+l.length+1=txSize l.length:=by
 have:=List.length_pos_iff.2 h0;unfold idxRows txSize
 split
 · rw[if_neg (by omega)];simp only[List.length_singleton];omega
 · rw[if_neg (by omega)];simp only[List.length_cons,List.length_nil];omega
theorem KG {l:List Int}(h:l.length<=24):∀s∈idxRows l,s.length=64:=by
 intro s hs;unfold idxRows at hs
 split at hs
 · obtain rfl:=List.mem_singleton.1 hs;exact Ct (by rw[Bz];omega)
 · rcases List.mem_cons.1 hs with rfl|hs
   · exact Ct (by rw[Bz,List.length_take];omega)
   · obtain rfl:=List.mem_singleton.1 hs;exact Ct (by rw[Bz,List.length_drop];omega)
theorem KH (l:List Int)(h:l.length<=24):∃z,(idxRows l).flatten=nums l++z:=by
 unfold idxRows
 split
 · exact⟨_,by simp only[List.flatten_cons,List.flatten_nil,List.append_nil,Au];rfl⟩
 · refine⟨List.replicate (64-(nums (l.drop 16)).length) 0,?_⟩;have e:Au (nums (l.take 16))=nums (l.take 16):=by
    unfold Au;rw[Bz,List.length_take,show 64-4*min 16 l.length=0 by omega];simp
   simp only[List.flatten_cons,List.flatten_nil,List.append_nil,e];rw[Au,<-List.append_assoc,<-Ee,List.take_append_drop]
theorem LG:∀(l:List Int)(z:List UInt8)(i:Nat)(h:i<l.length),cut (nums l++z) (4*i) 4=be 4 l[i].toNat:=by
 intro l
 induction l with
 |nil=>intro z i h;simp at h
 |cons a l ih=>
  intro z i h;have e:nums (a::l)++z=be 4 a.toNat++(nums l++z):=by simp[nums]
  rw[e];cases i with
  |zero=>
   rw[cut,Nat.mul_zero,List.drop_zero,List.take_left' (Aq 4 _)];rfl
  |succ i=>
   have:=ih z i (by simpa using h);rw[cut,show 4*(i+1)=(be 4 a.toNat).length+4*i by rw[Aq];omega,<-List.drop_drop,List.drop_left];exact this
namespace Tx
theorem head_length (t:Tx):t.head.length=10:=by simp[head,Aq]
theorem rest_64 {t:Tx}(h:t.Ok):∀s∈t.rest,s.length=64:=by
 intro s hs
 rcases List.mem_append.1 hs with hs|hs
 · exact KG h.1.2.1 s hs
 · obtain⟨i,hi,rfl⟩:=List.getElem_of_mem hs;exact h.1.2.2.2 i hi
end Tx
theorem DV (h:List UInt8)(n:Nat)(b:List UInt8)(hl:h.length=10):headRow h n b=magicJ++(h++(be 2 (65535-n)++(be 4 (crcOf (h++b))++List.replicate 44 0))):=by
 unfold headRow Au;have:(magicJ++h++be 2 (65535-n)++be 4 (crcOf (h++b))).length=20:=by simp[Aq,hl,magicJ]
 rw[this];simp only[List.append_assoc]
theorem KB (h:List UInt8)(n:Nat)(b:List UInt8)(hl:h.length=10):(headRow h n b).length=64:=by
 rw[DV h n b hl];simp[Aq,hl,magicJ]
theorem CU (h:List UInt8)(n:Nat)(b:List UInt8)(hl:h.length=10):
 (headRow h n b).take 4=magicJ/\cut (headRow h n b) 4 10=h/\cut (headRow h n b) 14 2=be 2 (65535-n)/\cut (headRow h n b) 16 4=be 4 (crcOf (h++b)):=by
 rw[DV h n b hl];refine⟨List.take_left' rfl,?_,?_,?_⟩
 · rw[cut,List.drop_left' (show magicJ.length=4 from rfl),List.take_left' hl]
 · rw[cut,show 14=4+10 by rfl,<-List.drop_drop,List.drop_left' (show magicJ.length=4 from rfl),List.drop_left' hl,List.take_left' (Aq 2 _)]
 · rw[cut,show 16=4+10+2 by rfl,<-List.drop_drop,<-List.drop_drop,List.drop_left' (show magicJ.length=4 from rfl),List.drop_left' hl,List.drop_left' (Aq 2 _),List.take_left' (Aq 4 _)]
theorem Fg (s:List UInt8)(a b c d:Nat)(h:c+d<=b):cut (cut s a b) c d=cut s (a+c) d:=by
 unfold cut;rw[List.drop_take,List.drop_drop,List.take_take,Nat.min_eq_left (by omega)]
namespace Tx
theorem top_length (t:Tx):t.top.length=64:=KB _ _ _ t.head_length
theorem rows_64 {t:Tx}(h:t.Ok):∀s∈t.rows,s.length=64:=by
 intro s hs
 rcases List.mem_cons.1 hs with rfl|hs
 · exact t.top_length
 · exact rest_64 h s hs
theorem rows_length {t:Tx}(h:t.Ok):t.rows.length=txSize t.plan.targets.length:=by
 rw[<-DX h.2 h.1.2.1];simp only[rows,rest,List.length_cons,List.length_append];have:=h.1.1;omega
theorem rest_length {t:Tx}(h:t.Ok):t.rest.length+1=txSize t.plan.targets.length:=by rw[<-rows_length h];rfl
theorem EB {t:Tx}(h:t.Ok):cut t.top 12 2=be 2 t.plan.targets.length/\hn t.top=t.plan.targets.length/\hm t.top=65535-t.plan.targets.length:=by
 obtain⟨h1,h2,h3,h4⟩:=CU t.head t.plan.targets.length t.rest.flatten t.head_length;have e:cut t.top 12 2=be 2 t.plan.targets.length:=by
  have:=Fg t.top 4 10 8 2 (by omega);rw[<-this,top,h2,head,cut,List.drop_left' (Aq 8 _),List.take_of_length_le (by rw[Aq];omega)]
 have:=h.1.2.1;refine⟨e,?_,?_⟩
 · unfold hn;rw[e,Du (by omega)]
 · unfold hm;rw[top,h3,Du (by omega)]
theorem Pp {t:Tx}(h:t.Ok):hcount t.top=t.plan.targets.length:=by
 obtain⟨e,e1,e2⟩:=EB h;have:=h.1.2.1;have h0:=List.length_pos_iff.2 h.2;have hp:magicJ.isPrefixOf t.top=true:=by
  rw[List.isPrefixOf_iff_prefix];exact⟨_,(DV _ _ _ t.head_length).symm⟩
 unfold hcount;rw[e1,e2,if_pos ⟨t.top_length,hp,Pt.2 ⟨h0,this⟩,by omega⟩]
theorem read_rows {t:Tx}(h:t.Ok)(hs:t.seq<18446744073709551616)(l:List (List UInt8)):txRead (t.rows++l)=(t,0):=by
 have hl:=rows_length h;have hc:=Pp h;have h0:=List.length_pos_iff.2 h.2;have h24:=h.1.2.1;obtain⟨c1,c2,c3,c4⟩:=CU t.head t.plan.targets.length t.rest.flatten t.head_length;have hd:(t.rows++l).headD []=t.top:=rfl;have ht:(t.rows++l).take (txSize t.plan.targets.length)=t.rows:=List.take_left' hl;have hb:bodyOf (t.rows++l) (txSize t.plan.targets.length)=t.rest.flatten:=by unfold bodyOf;rw[ht];rfl
 have hp:parse (t.rows++l) t.plan.targets.length=t:=by
  obtain⟨z,hz⟩:=KH t.plan.targets h24;have hz':t.rest.flatten=nums t.plan.targets++(z++t.plan.data.flatten):=by rw[rest,List.flatten_append,hz,List.append_assoc]
  unfold parse;rw[hd,hb,ht];have e1:un (cut t.top 4 8)=t.seq:=by
   have:=Fg t.top 4 10 0 8 (by omega);rw[<-this,top,c2,head,cut,List.drop_zero,List.take_left' (Aq 8 _),Ci];exact Nat.mod_eq_of_lt (by omega)
  have e2:((List.range t.plan.targets.length).map fun i=>(un (cut t.rest.flatten (4*i) 4):Int))=t.plan.targets:=by
   apply List.ext_getElem (by simp)
   intro i h1 h2;rw[List.getElem_map,List.getElem_range,hz',LG _ _ i h2,Ci];have:=(h.1.2.2.1 i h2).1;simp only[sectorOk,Bool.and_eq_true,decide_eq_true_eq]at this;rw[Nat.mod_eq_of_lt (by omega)];omega
  have e3:t.rows.drop (txSize t.plan.targets.length-t.plan.targets.length)=t.plan.data:=by
   have:=h.1.1;rw[<-DX h.2 h24,show(idxRows t.plan.targets).length+t.plan.targets.length+1-t.plan.targets.length=(idxRows t.plan.targets).length+1 by omega,rows,List.drop_succ_cons,rest,List.drop_left]
  rw[e1,e2,e3]
 unfold txRead;rw[hd,hc,ht,hb,hp,if_neg (by simp[rows]),if_neg (by omega),if_neg (by rw[List.length_append,hl];omega),if_neg,if_neg,if_pos]
 · unfold write;rw[if_pos h]
 · rw[top,c2,c4];simp
 · rintro⟨s,hs,hne⟩;exact hne (rows_64 h s hs)
end Tx
theorem LX (l:List (List UInt8))(n:Nat):(parse l n).plan.targets.length=n:=by simp[parse]
theorem Es {l:List (List UInt8)}(h:(txRead l).2=0):l≠[]/\hcount (l.headD [])≠0/\txSize (hcount (l.headD []))<=l.length/\(txRead l).1=parse l (hcount (l.headD []))/\(txRead l).1.Ok/\
 (txRead l).1.rows=l.take (txSize (hcount (l.headD [])))/\(txRead l).1.plan.targets.length=hcount (l.headD [])/\(txRead l).1.write=(l.take (txSize (hcount (l.headD []))),0):=by
 unfold txRead at h ⊢
 split at h
 · simp at h
 rename_i g1
 rw[if_neg g1]
 split at h
 · simp at h
 rename_i g2
 rw[if_neg g2]
 split at h
 · simp at h
 rename_i g3
 rw[if_neg g3]
 split at h
 · simp at h
 rename_i g4
 rw[if_neg g4]
 split at h
 · simp at h
 rename_i g5
 rw[if_neg g5]
 split at h
 rotate_left
 · simp at h
 rename_i g6
 rw[if_pos g6];refine⟨g1,g2,by omega,rfl,?_⟩;have g7:=g6;unfold Tx.write at g6
 split at g6
 · rename_i g
   exact⟨g,(Prod.mk.inj g6).1,LX _ _,g7⟩
 · have:=(Prod.mk.inj g6).2;simp at this
theorem Kq:∀(l:List (List UInt8))(i j:Nat)(b:UInt8),(∀s∈l,s.length=64)->(hi:i<l.length)->j<64->(l.set i (l[i].set j b)).flatten=l.flatten.set (64*i+j) b:=by
 intro l
 induction l with
 |nil=>intro i j b _ hi;simp at hi
 |cons s l ih=>
  intro i j b h hi hj;have hs:=h s List.mem_cons_self;cases i with
  |zero=>
   simp only[List.set_cons_zero,List.getElem_cons_zero,List.flatten_cons,Nat.mul_zero,Nat.zero_add];rw[List.set_append_left _ _ (by omega)]
  |succ i=>
   simp only[List.set_cons_succ,List.getElem_cons_succ,List.flatten_cons];rw[ih i j b (fun s hs=>h s (List.mem_cons_of_mem _ hs)) (by simpa using hi) hj,List.set_append_right _ _ (by omega)]
   congr 2;omega
theorem Ko:∀(l:List (List UInt8))(i j:Nat),(∀s∈l,s.length=64)->(hi:i<l.length)->j<64->l.flatten[64*i+j]? =l[i][j]? :=by
 intro l
 induction l with
 |nil=>intro i j _ hi;simp at hi
 |cons s l ih=>
  intro i j h hi hj;have hs:=h s List.mem_cons_self;cases i with
  |zero=>
   simp only[List.getElem_cons_zero,List.flatten_cons,Nat.mul_zero,Nat.zero_add];rw[List.getElem?_append_left (by omega)]
  |succ i=>
   simp only[List.getElem_cons_succ,List.flatten_cons];rw[List.getElem?_append_right (by omega),<-ih i j (fun s hs=>h s (List.mem_cons_of_mem _ hs)) (by simpa using hi) hj]
   congr 1;omega
theorem CO {s:List UInt8}{j o n:Nat}{b:UInt8}(h:j<o\/o+n<=j):cut (s.set j b) o n=cut s o n:=by
 apply List.ext_getElem?
 intro k;rw[Bu,Bu]
 split
 · rw[List.getElem?_set_ne (by omega)]
 · rfl
theorem Js {s:List UInt8}{j o n:Nat}{b:UInt8}(h:o<=j)(hj:j<o+n):cut (s.set j b) o n=(cut s o n).set (j-o) b:=by
 apply List.ext_getElem?
 intro k;rw[Bu];by_cases hk:k<n
 · rw[if_pos hk];by_cases e:o+k=j
   · subst e;rw[show o+k-o=k by omega];by_cases hl:o+k<s.length
     · rw[List.getElem?_set_self hl,List.getElem?_set_self (by simp[cut];omega)]
     · rw[List.getElem?_eq_none (by simp;omega),List.getElem?_eq_none (by simp[cut];omega)]
   · rw[List.getElem?_set_ne (by omega),List.getElem?_set_ne (by omega),Bu,if_pos hk]
 · rw[if_neg hk,List.getElem?_eq_none];rw[List.length_set];simp[cut];omega
theorem Dy {a b:Nat}(ha:a<65536)(hb:b<65536)(h:be 2 a=be 2 b):a=b:=by
 rw[<-Du ha,h,Du hb]
theorem Tx.byte {t:Tx}(h:t.Ok){i j:Nat}(hi:i<t.rows.length)(hj:j<64){b:UInt8}(hb:t.rows[i][j]?≠some b):(txRead (t.rows.set i (t.rows[i].set j b))).2≠0:=by
 intro h0;obtain⟨r1,r2,r3,r4,r5,r6,r7,r8⟩:=Es h0;generalize (txRead (t.rows.set i (t.rows[i].set j b))).1=u at*;have hl:=rows_length h;have hul:=rows_length r5;rw[List.length_set,hl,<-r7]at r3;rw[<-r7]at r6;have h24:=h.1.2.1;have u24:=r5.1.2.1;obtain⟨a1,a2,a3,a4⟩:=CU t.head t.plan.targets.length t.rest.flatten t.head_length;obtain⟨b1,b2,b3,b4⟩:=CU u.head u.plan.targets.length u.rest.flatten u.head_length;obtain⟨ta,tb,tc⟩:=EB h;obtain⟨ua,ub,uc⟩:=EB r5;have hnn:(t.plan.targets.length=u.plan.targets.length)->u.rows=t.rows.set i (t.rows[i].set j b):=by
  intro e;rw[r6,<-e,List.take_of_length_le (by rw[List.length_set,hl];exact Nat.le_refl _)]
 cases i with
 |zero=>
  have htop:u.top=t.top.set j b:=by
   have e:=congrArg (·[0]?) r6;simp only[rows,List.set_cons_zero,List.getElem_cons_zero]at e;rw[List.getElem?_take_of_lt (by rw[<-hul];simp[rows])]at e;simpa using e
  have hn:t.plan.targets.length=u.plan.targets.length:=by
   by_cases hj2:12<=j/\j<14
   · have e:be 2 (65535-t.plan.targets.length)=be 2 (65535-u.plan.targets.length):=by
      rw[<-a3,<-b3];show cut t.top 14 2=cut u.top 14 2;rw[htop,CO (by omega)]
     have:=Dy (by omega) (by omega) e;omega
   · have e:be 2 t.plan.targets.length=be 2 u.plan.targets.length:=by
      rw[<-ta,<-ua,htop,CO (by omega)]
     exact Dy (by omega) (by omega) e
  have hr:=hnn hn;have hrest:u.rest=t.rest:=by
   simp only[rows,List.set_cons_zero,List.cons.injEq]at hr;exact hr.2
  by_cases hj4:4<=j/\j<14
  · have hH:u.head=t.head.set (j-4) b:=by
     rw[<-b2,<-a2];show cut u.top 4 10=(cut t.top 4 10).set (j-4) b;rw[htop,Js (by omega) (by omega)]
    have hs:be 4 (crcOf (t.head++t.rest.flatten))=be 4 (crcOf (u.head++u.rest.flatten)):=by
     rw[<-a4,<-b4];show cut t.top 16 4=cut u.top 16 4;rw[htop,CO (by omega)]
    have hs:=EP (AW _ _) (AW _ _) hs;rw[hrest,hH,<-List.set_append_left _ _ (by rw[head_length];omega)]at hs;have hjl:j-4<(t.head++t.rest.flatten).length:=by rw[List.length_append,head_length];omega
    have:=Fe hjl hs;apply hb
    rw[List.getElem_append_left (by rw[head_length];omega)]at this;rw[<-this];show t.top[j]? =_;rw[<-List.getElem?_eq_getElem]
    conv=>rhs;rw[<-a2,Bu,if_pos (by omega),show 4+(j-4)=j by omega]
    rfl
  · have hH:u.head=t.head:=by
     rw[<-b2,<-a2];show cut u.top 4 10=cut t.top 4 10;rw[htop,CO (by omega)]
    have:u.top=t.top:=by unfold top;rw[hH,hrest,hn]
    apply hb
    show t.top[j]? =some b;rw[<-this,htop,List.getElem?_set_self (by rw[top_length];exact hj)]
 |succ i=>
  have htop:u.top=t.top:=by
   have e:=congrArg (·[0]?) r6;rw[List.getElem?_take_of_lt (by rw[<-hul];simp[rows])]at e;simpa[rows]using e
  have hn:t.plan.targets.length=u.plan.targets.length:=by
   have e:be 2 t.plan.targets.length=be 2 u.plan.targets.length:=by rw[<-ta,<-ua,htop]
   exact Dy (by omega) (by omega) e
  have hr:=hnn hn;have hi':i<t.rest.length:=by simpa[rows]using hi
  have hrest:u.rest=t.rest.set i (t.rest[i].set j b):=by
   simp only[rows,List.set_cons_succ,List.cons.injEq,List.getElem_cons_succ]at hr;exact hr.2
  have hH:u.head=t.head:=by
   rw[<-b2,<-a2];show cut u.top 4 10=cut t.top 4 10;rw[htop]
  have hs:be 4 (crcOf (t.head++t.rest.flatten))=be 4 (crcOf (u.head++u.rest.flatten)):=by
   rw[<-a4,<-b4];show cut t.top 16 4=cut u.top 16 4;rw[htop]
  have hs:=EP (AW _ _) (AW _ _) hs;have hr64:=rest_64 h;rw[hrest,hH,Kq _ _ _ _ hr64 hi' hj]at hs;have hfl:t.rest.flatten[64*i+j]? =t.rest[i][j]? :=Ko _ _ _ hr64 hi' hj;have hjl:64*i+j<t.rest.flatten.length:=by
   rcases Nat.lt_or_ge (64*i+j) t.rest.flatten.length with h'|h'
   · exact h'
   · rw[List.getElem?_eq_none h',eq_comm,List.getElem?_eq_none_iff]at hfl;have:=hr64 _ (List.getElem_mem hi');omega
  have e2:t.head++t.rest.flatten.set (64*i+j) b=(t.head++t.rest.flatten).set (10+(64*i+j)) b:=by
   rw[List.set_append_right _ _ (by rw[head_length];omega),head_length];congr 2;omega
  rw[e2]at hs;have:=Fe (by rw[List.length_append,head_length];omega) hs;apply hb
  show t.rest[i][j]? =some b;rw[<-hfl,<-this,List.getElem_append_right (by rw[head_length];omega)];simp only[head_length];rw[List.getElem?_eq_getElem hjl]
  congr 2;omega
theorem Tx.same_self (t:Tx):t.same t=true:=by simp[Tx.same,Pn.same_self]
end
section
def wrSt (l:List Int)(i:Nat):List (List UInt8)×List UInt8:=
 if i=l.length then(idxRows l,[])else if i<16 then([],nums (l.take i))else([Au (nums (l.take 16))],nums ((l.take i).drop 16))
theorem PY {l:List Int}(h:l≠[]):wrSt l 0=([],[]):=by
 have:=List.length_pos_iff.2 h;unfold wrSt;rw[if_neg (by omega),if_pos (by omega)];rfl
theorem Ia (l:List Int):wrSt l l.length=(idxRows l,[]):=by unfold wrSt;rw[if_pos rfl]
theorem LI (l:List Int)(i:Nat)(h:i<l.length):nums (l.take (i+1))=nums (l.take i)++be 4 l[i].toNat:=by
 rw[List.take_add_one,Ee,List.getElem?_eq_getElem h];simp[nums]
theorem PX {l:List Int}{i:Nat}(h:i<l.length)(h24:l.length<=24):
 wrSt l (i+1)=if i+1=l.length\/i%16=15 then((wrSt l i).1++[Au ((wrSt l i).2++be 4 l[i].toNat)],[])else((wrSt l i).1,(wrSt l i).2++be 4 l[i].toNat):=by
 have hs:wrSt l i=if i<16 then([],nums (l.take i))else([Au (nums (l.take 16))],nums ((l.take i).drop 16)):=by unfold wrSt;rw[if_neg (by omega)]
 have ht:=LI l i h;have hd:16<=i->nums ((l.take (i+1)).drop 16)=nums ((l.take i).drop 16)++be 4 l[i].toNat:=fun h16=>by
  rw[List.take_add_one,List.drop_append_of_le_length (by rw[List.length_take];omega),Ee,List.getElem?_eq_getElem h];simp[nums]
 rw[hs];by_cases h1:i+1=l.length
 · rw[if_pos (.inl h1)];have e:wrSt l (i+1)=(idxRows l,[]):=by rw[h1];exact Ia l
   rw[e];unfold idxRows;by_cases h2:i<16
   · rw[if_pos (by omega),if_pos h2];simp only[List.nil_append];rw[<-ht,List.take_of_length_le (by omega)]
   · rw[if_neg (by omega),if_neg h2];simp only[List.singleton_append];rw[<-hd (by omega),show List.take (i+1) l=l from List.take_of_length_le (by omega)]
 · have e:wrSt l (i+1)=if i+1<16 then([],nums (l.take (i+1)))else([Au (nums (l.take 16))],nums ((l.take (i+1)).drop 16)):=by unfold wrSt;rw[if_neg h1]
   rw[e];by_cases h3:i<15
   · rw[if_pos (by omega),if_neg (by omega),if_pos (by omega),ht]
   · by_cases h4:i=15
     · rw[if_neg (by omega),if_pos (.inr (by omega)),if_pos (by omega)];simp only[List.nil_append];rw[<-ht];subst h4;rw[show((l.take (15+1)).drop 16)=[] by rw[List.drop_eq_nil_iff,List.length_take];omega];rfl
     · rw[if_neg (by omega),if_neg (by omega),if_neg (by omega),hd (by omega)]
theorem PW {l:List Int}{i:Nat}(h:i<l.length)(h24:l.length<=24):(wrSt l i).2.length<=60/\(wrSt l i).1.length<=1:=by
 unfold wrSt;rw[if_neg (by omega)]
 split
 · simp only[Bz,List.length_take,List.length_nil];omega
 · simp only[Bz,List.length_take,List.length_drop,List.length_singleton];omega
theorem Ji {s:Nat}(hs:s<4294967296)(l:List (List UInt8))(i:Nat)(h:i<l.length):crcMore (crcMore s (l.take i).flatten) l[i]=crcMore s (l.take (i+1)).flatten:=by
 rw[CM hs,List.take_succ_eq_append_getElem h,List.flatten_append];simp
theorem Dx (t:Tx):t.write.1.length<=27:=by
 unfold Tx.write
 split
 · rename_i h
   show t.rows.length<=27;rw[Tx.rows_length h];have:=h.1.2.1;unfold txSize;split<;>omega
 · exact Nat.zero_le _
theorem NC {l:List (List UInt8)}(h:(txRead l).2≠0):(txRead l).1=Tx.zero:=by
 unfold txRead at h ⊢
 split
 · rfl
 split
 · rfl
 split
 · rfl
 split
 · rfl
 split
 · rfl
 rename_i h1 h2 h3 h4 h5
 rw[if_neg h1,if_neg h2,if_neg h3,if_neg h4,if_neg h5]at h
 split
 · rename_i h6;rw[if_pos h6]at h;exact absurd rfl h
 · rfl
theorem read_len (l:List (List UInt8)):(txRead l).1.plan.targets.length<=24/\(txRead l).1.plan.data.length<=24:=by
 by_cases h:(txRead l).2=0
 · obtain⟨_,_,_,_,h1,_⟩:=Es h;have:=h1.1.1;have:=h1.1.2.1;omega
 · rw[NC h];exact⟨Nat.zero_le _,Nat.zero_le _⟩
namespace Pn
def none:Pn:=⟨[],[]⟩
theorem none_fit:none.Fit:=⟨rfl,by simp[none],fun i h=>by simp[none]at h,fun i h=>by simp[none]at h⟩
def both (D:Dk)(L:Pn)(k:Nat):Int×Int:=
 if(cntGet D L k).2≠0 then(0,(cntGet D L k).2)else if(cntGet D none k).2≠0 then(0,(cntGet D none k).2)else((cntGet D L k).1+(cntGet D none k).1,0)
def stopsAt (D:Dk)(L:Pn)(k:Nat):Bool:=decide ((both D L k).2≠0)||decide ((both D L k).1=0)
def alFind (D:Dk)(L:Pn)(h:Int):Int×Int:=
 match (List.range h.toNat).find? (stopsAt D L)with
 | .none=>(0,17)
 |some k=>if(both D L k).2≠0 then(0,(both D L k).2)else(k,0)
def alTake (D:Dk)(L:Pn)(h:Int):Pn×Int×Int:=
 if(alFind D L h).2≠0 then(L,0,(alFind D L h).2)else if(cntAdd D L (alFind D L h).1 1).2≠0 then(L,0,(cntAdd D L (alFind D L h).1 1).2)else((cntAdd D L (alFind D L h).1 1).1,(alFind D L h).1,0)
variable {D:Dk} {L:Pn}
theorem Fw {p:Nat->Bool}{n k:Nat}:(List.range n).find? p=some k↔k<n/\p k=true/\∀j,j<k->p j=false:=by
 rw[List.find?_range_eq_some];simp only[List.mem_range,Bool.not_eq_true'];constructor
 · rintro⟨a,b,c⟩;exact⟨b,a,fun j hj=>c j hj⟩
 · rintro⟨a,b,c⟩;exact⟨b,a,fun j hj=>c j hj⟩
theorem Kj {p:Nat->Bool}{n:Nat}:(List.range n).find? p=.none↔∀j,j<n->p j=false:=by
 rw[List.find?_eq_none];simp
theorem alFind_hit {h:Int}{k:Nat}(hk:(k:Int)<h)(hs:stopsAt D L k=true)(hn:∀j,j<k->stopsAt D L j=false):alFind D L h=if(both D L k).2≠0 then(0,(both D L k).2)else((k:Int),0):=by
 have:=Fw.2 ⟨show k<h.toNat by omega,hs,hn⟩;rw[alFind,this]
theorem alFind_miss {h:Int}(hn:∀j:Nat,(j:Int)<h->stopsAt D L j=false):alFind D L h=(0,17):=by
 have:=Kj.2 (fun(j:Nat)(hj:j<h.toNat)=>hn j (by omega));rw[alFind,this]
theorem II {k:Nat}(h:(both D L k).2=0):(cntGet D L k).2=0/\(cntGet D none k).2=0/\(both D L k).1=(cntGet D L k).1+(cntGet D none k).1:=by
 revert h
 rw[both]
 split
 · rename_i h;intro h2;exact absurd h2 h
 · rename_i h1
   split
   · rename_i h;intro h2;exact absurd h2 h
   · rename_i h2
     intro _;exact⟨by simpa using h1,by simpa using h2,rfl⟩
theorem alFind_cases (D:Dk)(L:Pn)(h:Int):
 (∃k:Nat,(k:Int)<h/\alFind D L h=((k:Int),0)/\(cntGet D L k).2=0/\(cntGet D none k).2=0/\(cntGet D L k).1=0/\(cntGet D none k).1=0/\∀j,j<k->stopsAt D L j=false)\/((alFind D L h).2≠0/\(alFind D L h).1=0):=by
 cases hf:(List.range h.toNat).find? (stopsAt D L)with
 |none=>right;rw[alFind,hf];simp
 |some k=>
  obtain⟨h1,h2,h3⟩:=Fw.1 hf;have e:alFind D L h=if(both D L k).2≠0 then(0,(both D L k).2)else((k:Int),0):=by rw[alFind,hf]
  by_cases h4:(both D L k).2=0
  · left
    rw[if_neg (by rw[h4];simp)]at e;obtain⟨a,b,c⟩:=II h4;have hz:(both D L k).1=0:=by
     simp only[stopsAt,Bool.or_eq_true,decide_eq_true_eq]at h2
     rcases h2 with h2|h2
     · exact absurd h4 h2
     · exact h2
    have i1:=cntGet_le D L k;have i2:=cntGet_le D none k;exact⟨k,by omega,e,a,b,by omega,by omega,h3⟩
  · right
    rw[if_pos h4]at e;rw[e];exact⟨h4,rfl⟩
end Pn
end
section
namespace Pn
variable {D:Dk} {L X:Pn}
theorem EK (D:Dk)(L:Pn)(h:Int):(∃k:Nat,∃X,(k:Int)<h/\alTake D L h=(X,(k:Int),0)/\cntGet D L k=(0,0)/\cntGet D none k=(0,0)/\cntAdd D L k 1=(X,0))\/((alTake D L h).2.2≠0/\(alTake D L h).1=L/\(alTake D L h).2.1=0):=by
 rcases alFind_cases D L h with ⟨k,h1,h2,h3,h4,h5,h6,_⟩|⟨h1,h2⟩
 · by_cases h7:(cntAdd D L k 1).2=0
   · left
     refine⟨k,(cntAdd D L k 1).1,h1,?_,Prod.ext h5 h3,Prod.ext h6 h4,Prod.ext rfl h7⟩;rw[alTake,h2,if_neg (by simp),if_neg (by rw[h7];simp)]
   · right
     rw[alTake,h2,if_neg (by simp),if_pos h7];exact⟨h7,rfl,rfl⟩
 · right
   rw[alTake,if_pos h1];exact⟨h1,rfl,rfl⟩
end Pn
end
section
namespace Dk
def blank (n:Nat):Dk:=⟨List.replicate (64*n) 0,[],-1,false,[]⟩
theorem fresh_blank {n:Nat}(h1:1<=n)(h2:n<=1024):Dk.fresh n=(blank n,0):=by
 rw[fresh,if_neg (by omega),Int.toNat_natCast];rfl
theorem blank_sz (n:Nat):(blank n).sz=n:=by unfold sz blank;simp
theorem blank_fit {n:Nat}(h1:1<=n)(h2:n<=1024):(blank n).fit=true:=by
 unfold fit;rw[blank_sz];simp[blank,incr,h1,h2]
end Dk
end
end Go.Proofs.YtmiilfnchfdfcaaGreatDoor
