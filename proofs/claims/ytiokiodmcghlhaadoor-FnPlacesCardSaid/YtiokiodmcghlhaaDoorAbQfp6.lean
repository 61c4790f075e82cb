/- Merged texts (6 of 11) of the proof that ends in Fpy: Da Dt W Gb Gc Gd Ge Gf Gg Db Gh Gi Gj Gk. -/
import Derived.Test.YtiokiodmcghlhaaDoorAbQfp5
/- Draws: the cursor. -/
namespace Go.Ab.Vg
set_option linter.unusedSimpArgs false
set_option linter.unusedVariables false
def byteC (x:Int):List AVal:=[.v (.int .u8 x)]
structure Cur where
 code:List Int
 pos:Int
 seed:Int
def shrU (a b:Int):Int:=a.fdiv (2 ^ min b.toNat 64)
def andU (a b:Int):Int:=IntKind.u64.wrap (BitVec.ofInt 64 a &&& BitVec.ofInt 64 b).toNat
theorem cv_u64 {Ty:Types} {s t:TypeId} {i:TI} {k:IntKind} {a v:Int} (hs:Ty s=some i) (ht:kd Ty t = .int .u64) (hv:v=IntKind.u64.wrap a):convF Ty s t (.v (.int k a))=some (.v (.int .u64 v)):=by
 subst hv;simp only[convF,hs,ht]
theorem ibu_add {a b v:Int} (hv:v=IntKind.u64.wrap (a+b)):intBin .add .u64 a b=some (.v (.int .u64 v)):=by subst hv;rfl
theorem ibu_mul {a b v:Int} (hv:v=IntKind.u64.wrap (a * b)):intBin .mul .u64 a b=some (.v (.int .u64 v)):=by subst hv;rfl
theorem ibu_and {a b v:Int} (hv:v=andU a b):intBin .and .u64 a b=some (.v (.int .u64 v)):=by subst hv;rfl
theorem ibu_shr {a b v:Int} (hb:¬ b<0) (hv:v=shrU a b):intBin .shr .u64 a b=some (.v (.int .u64 v)):=by subst hv;simp only[intBin,if_neg hb];rfl
structure CurOk (s:Cur) (m:Int):Prop where
 bytes:∀ x ∈ s.code,0≤x∧x≤255
 lo:0≤s.pos
 hi:s.pos+m≤1152921504606846976
def nextB (s:Cur):Int:=if s.pos<s.code.length then at' s.code s.pos else 0
def nextSeed (s:Cur):Int:=IntKind.u64.wrap (IntKind.u64.wrap (IntKind.u64.wrap (s.seed * 6364136223846793005)+IntKind.u64.wrap (nextB s))+462197)
def nextZ (s:Cur):Cur × Int:=(⟨s.code,s.pos+1,nextSeed s⟩,if s.pos+1≤s.code.length then nextB s else andU (shrU (nextSeed s) 40) 255)
abbrev nextZ_pre (s:Cur):Prop:=CurOk s 1
def nextZ_wp (c:Cur) (Z:(Cur × Int)→Prop):Prop:=
 ∀ len2:Int,len2=(c.code.length:Int)→∀ c4:Bool,c4=decide (c.pos<len2)→((c4=true→(0≤c.pos∧c.pos<c.code.length)∧∀ x7:Int,x7=at' c.code c.pos→(I64 x7)∧(I64 (c.pos+1))∧∀ v13:Int,v13=c.pos+1→∀ u16:Int,u16=IntKind.u64.wrap (c.seed * 6364136223846793005)→∀ u18:Int,u18=IntKind.u64.wrap x7→∀ u20:Int,u20=IntKind.u64.wrap (u16+u18)→∀ u22:Int,u22=IntKind.u64.wrap (u20+462197)→∀ len25:Int,len25=(c.code.length:Int)→∀ c27:Bool,c27=decide (v13≤len25)→((c27=true→Z ((Cur.mk c.code v13 u22),x7))∧(c27=false→∀ u29:Int,u29=shrU u22 40→∀ u31:Int,u31=andU u29 255→(I64 u31)∧Z ((Cur.mk c.code v13 u22),u31))))∧(c4=false→(I64 (c.pos+1))∧∀ v37:Int,v37=c.pos+1→∀ u40:Int,u40=IntKind.u64.wrap (c.seed * 6364136223846793005)→∀ u42:Int,u42=IntKind.u64.wrap 0→∀ u44:Int,u44=IntKind.u64.wrap (u40+u42)→∀ u46:Int,u46=IntKind.u64.wrap (u44+462197)→∀ len49:Int,len49=(c.code.length:Int)→∀ c51:Bool,c51=decide (v37≤len49)→((c51=true→Z ((Cur.mk c.code v37 u46),0))∧(c51=false→∀ u53:Int,u53=shrU u46 40→∀ u55:Int,u55=andU u53 255→(I64 u55)∧Z ((Cur.mk c.code v37 u46),u55)))))
theorem mem_at {α:Type} [Inhabited α] {l:List α} {i:Int} (h:0≤i∧i<l.length):at' l i ∈ l:=by
 obtain⟨k,rfl⟩:=Int.eq_ofNat_of_zero_le h.1
 have h1:k<l.length:=by omega
 rw[at_lt h1]
 exact List.getElem_mem h1
theorem andU_le (x:Int):0≤andU x 255∧andU x 255≤255:=by
 have h:(BitVec.ofInt 64 x &&& BitVec.ofInt 64 255).toNat≤255:=by
  rw[BitVec.toNat_and]
  exact Nat.le_trans Nat.and_le_right (by decide)
 have e:andU x 255=((BitVec.ofInt 64 x &&& BitVec.ofInt 64 255).toNat:Int) % 18446744073709551616:=rfl
 omega
theorem nextZ_vc (s:Cur) (h:nextZ_pre s):nextZ_wp s (fun y=>y=nextZ s):=by
 unfold nextZ_wp
 obtain⟨hb,h0,h1⟩:=h
 simp only[forall_eq,decide_eq_true_eq,decide_eq_false_iff_not,I64]
 refine⟨fun c=>⟨⟨h0,c⟩,?_,by omega,fun c2=>?_,fun c2=>⟨?_,?_⟩⟩,fun c=>⟨by omega,fun c2=>?_,fun c2=>⟨?_,?_⟩⟩⟩
 ·have:=hb _ (mem_at ⟨h0,c⟩);omega
 ·simp only[nextZ,nextSeed,nextB,if_pos c,if_pos c2]
 ·have:=andU_le (shrU (nextSeed s) 40);simp only[nextSeed,nextB,if_pos c] at this;omega
 ·simp only[nextZ,nextSeed,nextB,if_pos c,if_neg c2]
 ·simp only[nextZ,nextSeed,nextB,if_neg c,if_pos c2]
 ·have:=andU_le (shrU (nextSeed s) 40);simp only[nextSeed,nextB,if_neg c] at this;omega
 ·simp only[nextZ,nextSeed,nextB,if_neg c,if_neg c2]
theorem nextZ_le {s:Cur} {m:Int} (h:CurOk s m):0≤(nextZ s).2∧(nextZ s).2≤255:=by
 simp only[nextZ]
 split
 ·simp only[nextB]
  split
  ·rename_i c;have:=h.bytes _ (mem_at ⟨h.lo,c⟩);omega
  ·omega
 ·exact andU_le _
theorem nextZ_ok' {s:Cur} {m:Int} (h:CurOk s m):CurOk (nextZ s).1 (m - 1):=⟨h.bytes,by have:=h.lo;simp only[nextZ];omega,by have:=h.hi;simp only[nextZ];omega⟩
def pickZ (s:Cur) (n:Int):Cur × Int:=
 if n≤1 then (s,0) else if 200<n then ((nextZ (nextZ s).1).1,((nextZ s).2 * 256+(nextZ (nextZ s).1).2).tmod n) else ((nextZ s).1,(nextZ s).2.tmod n)
abbrev pickZ_pre (s:Cur) (_:Int):Prop:=CurOk s 2
def pickZ_wp (c:Cur) (n_:Int) (Z:(Cur × Int)→Prop):Prop:=
 ∀ c2:Bool,c2=decide (n_≤1)→((c2=true→Z (c,0))∧(c2=false→(nextZ_pre c)∧∀ r5:Cur × Int,r5=nextZ c→∀ c13:Bool,c13=decide (200<n_)→((c13=true→(I64 (r5.2 * 256))∧∀ v16:Int,v16=r5.2 * 256→(nextZ_pre r5.1)∧∀ r19:Cur × Int,r19=nextZ r5.1→(I64 (v16+r19.2))∧∀ v27:Int,v27=v16+r19.2→((n_:Int) ≠ 0)∧∀ v31:Int,v31=v27.tmod n_→Z (r19.1,v31))∧(c13=false→((n_:Int) ≠ 0)∧∀ v34:Int,v34=r5.2.tmod n_→Z (r5.1,v34)))))
theorem pickZ_vc (s:Cur) (n:Int) (h:pickZ_pre s n):pickZ_wp s n (fun y=>y=pickZ s n):=by
 unfold pickZ_wp
 have h1:=nextZ_ok' h
 have b1:=nextZ_le h
 have b2:=nextZ_le h1
 have p1:nextZ_pre s:=⟨h.bytes,h.lo,by have:=h.hi;omega⟩
 simp only[forall_eq,decide_eq_true_eq,decide_eq_false_iff_not,I64]
 refine⟨fun c=>by rw[pickZ,if_pos c],fun c=>⟨p1,fun d=>⟨by omega,h1,by omega,by omega,?_⟩,fun d=>⟨by omega,?_⟩⟩⟩
 ·rw[pickZ,if_neg c,if_pos d]
 ·rw[pickZ,if_neg c,if_neg d]
structure Adv (m:Int) (s s':Cur):Prop where
 code:s'.code=s.code
 lo:s.pos≤s'.pos
 hi:s'.pos≤s.pos+m
theorem Adv.refl (s:Cur):Adv 0 s s:=⟨rfl,Int.le_refl _,by omega⟩
theorem Adv.trans {a b c:Cur} {m k:Int} (h:Adv m a b) (h':Adv k b c):Adv (m+k) a c:=⟨h'.code.trans h.code,by have:=h.lo;have:=h'.lo;omega,by have:=h.hi;have:=h'.hi;omega⟩
theorem Adv.le {a b:Cur} {m k:Int} (h:Adv m a b) (hk:m≤k):Adv k a b:=⟨h.code,h.lo,by have:=h.hi;omega⟩
theorem Adv.ok {a b:Cur} {m k:Int} (h:Adv m a b) (ho:CurOk a (m+k)):CurOk b k:=⟨by rw[h.code];exact ho.bytes,by have:=h.lo;have:=ho.lo;omega,by have:=h.hi;have:=ho.hi;omega⟩
theorem CurOk.le {a:Cur} {m k:Int} (ho:CurOk a m) (h:k≤m):CurOk a k:=⟨ho.bytes,ho.lo,by have:=ho.hi;omega⟩
theorem nextZ_adv (s:Cur):Adv 1 s (nextZ s).1:=⟨rfl,by simp only[nextZ];omega,by simp only[nextZ];omega⟩
theorem pickZ_adv (s:Cur) (n:Int):Adv 2 s (pickZ s n).1:=by
 rw[pickZ]
 split
 ·exact (Adv.refl s).le (by omega)
 ·split
  ·exact (nextZ_adv s).trans (nextZ_adv _)
  ·exact (nextZ_adv s).le (by omega)
theorem pickZ_le {s:Cur} (h:CurOk s 2) (n:Int):0≤(pickZ s n).2∧((pickZ s n).2<n∨(pickZ s n).2=0):=by
 have h1:=nextZ_ok' h
 have b1:=nextZ_le h
 have b2:=nextZ_le h1
 rw[pickZ]
 split
 ·exact⟨Int.le_refl _,.inr rfl⟩
 ·split
  ·exact⟨Int.tmod_nonneg _ (by omega),.inl (Int.tmod_lt_of_pos _ (by omega))⟩
  ·exact⟨Int.tmod_nonneg _ (by omega),.inl (Int.tmod_lt_of_pos _ (by omega))⟩
def oneZ (s:Cur) (n:Int):Cur × Bool:=((pickZ s n).1,decide ((pickZ s n).2=0))
abbrev oneZ_pre (s:Cur) (_:Int):Prop:=CurOk s 2
def oneZ_wp (c:Cur) (n_:Int) (Z:(Cur × Bool)→Prop):Prop:=
 (pickZ_pre c n_)∧∀ r3:Cur × Int,r3=pickZ c n_→∀ c10:Bool,c10=decide (r3.2=0)→Z (r3.1,c10)
theorem oneZ_vc (s:Cur) (n:Int) (h:oneZ_pre s n):oneZ_wp s n (fun y=>y=oneZ s n):=by
 unfold oneZ_wp
 simp only[forall_eq]
 exact⟨h,rfl⟩
def ofZ (s:Cur) (l:List Str):Cur × Str:=((pickZ s l.length).1,at' l (pickZ s l.length).2)
abbrev ofZ_pre (s:Cur) (l:List Str):Prop:=CurOk s 2∧l ≠ []
def ofZ_wp (c:Cur) (list:List Str) (Z:(Cur × Str)→Prop):Prop:=
 ∀ len2:Int,len2=(list.length:Int)→(pickZ_pre c len2)∧∀ r5:Cur × Int,r5=pickZ c len2→(0≤r5.2∧r5.2<list.length)∧∀ x13:Str,x13=at' list r5.2→Z (r5.1,x13)
theorem ofZ_vc (s:Cur) (l:List Str) (h:ofZ_pre s l):ofZ_wp s l (fun y=>y=ofZ s l):=by
 unfold ofZ_wp
 have:=pickZ_le h.1 l.length
 have:=List.length_pos_iff.2 h.2
 simp only[forall_eq]
 exact⟨h.1,by omega,rfl⟩
def amongZ (s:Cur) (l:List Int):Cur × Int:=((pickZ s l.length).1,at' l (pickZ s l.length).2)
abbrev amongZ_pre (s:Cur) (l:List Int):Prop:=CurOk s 2∧l ≠ []
def amongZ_wp (c:Cur) (list:List Int) (Z:(Cur × Int)→Prop):Prop:=
 ∀ len2:Int,len2=(list.length:Int)→(pickZ_pre c len2)∧∀ r5:Cur × Int,r5=pickZ c len2→(0≤r5.2∧r5.2<list.length)∧∀ x13:Int,x13=at' list r5.2→Z (r5.1,x13)
theorem amongZ_vc (s:Cur) (l:List Int) (h:amongZ_pre s l):amongZ_wp s l (fun y=>y=amongZ s l):=by
 unfold amongZ_wp
 have:=pickZ_le h.1 l.length
 have:=List.length_pos_iff.2 h.2
 simp only[forall_eq]
 exact⟨h.1,by omega,rfl⟩
end Go.Ab.Vg
/- The abstract machine, part Dt: the first rows of an own array, as an array by itself, at an operation. -/
namespace Go.Ab
set_option linter.unusedSectionVars false
theorem Row.fresh_c {H:Heap}:∀ {l:List Sh} {as1 bs:List AVal} {S:List Id},Row H l as1 bs S→(∀ t ∈ l,t = .c)→bs.length=l.length∧∀ a ∈ bs,Fresh a
 | [],[],[],_,_,_=>⟨rfl,by simp⟩
 | h::l,a::as1,b::bs,S,hr,hf=>by
  have h0:=hf h (by simp)
  subst h0
  simp only[Row,Tr] at hr
  obtain⟨S1,S2,⟨rfl,h1,_⟩,h2,_⟩:=hr
  obtain⟨p1,p2⟩:=Row.fresh_c h2 fun t ht=>hf t (by simp[ht])
  exact⟨by simp[p1],fun x hx=>by
   rcases List.mem_cons.1 hx with rfl | hx
   ·exact h1
   ·exact p2 x hx⟩
 | [],_::_,_,_,h,_=>by simp[Row] at h
 | [],[],_::_,_,h,_=>by simp[Row] at h
 | _::_,[],_,_,h,_=>by simp[Row] at h
 | _::_,_::_,[],_,h,_=>by simp[Row] at h
theorem Sep.freshE {H:Heap} {n:Nat} {K:List OwnE} {ids:List Id} {v e:AVal} (h:Sep H n ((.c,v,e)::K) ids):v=e∧Sep H n K ids:=by
 obtain⟨h0,S,h1,h2⟩:=h
 simp only[List.map_cons,Row,Tr] at h1
 obtain⟨S1,S2,⟨e1,_,rfl⟩,p2,rfl,_⟩:=h1
 exact⟨e1,h0,_,p2,fun i hi=>h2 i (by simpa using hi)⟩
def ShortOf (v w:AVal) (len b:Nat):Prop:=(v = .v (.slice none 0 0)∧w=v∧b=0∧len=0)∨∃ id,v = .arr id len 0 len∧w = .arr id len 0 b
theorem Sep.shorten {H:Heap} {n:Nat} {K:List OwnE} {ids:List Id} {l:List Sh} {α:Type} {g:α→List AVal} {xs:List α} {id:Id} (sp:Sep H n ((.s l,.arr id xs.length 0 xs.length,.list true (xs.map g))::K) ids) (hH:H id=some ⟨l.length,xs.map g⟩) (hf:∀ t ∈ l,t = .c) {b:Nat} (hb:b≤xs.length) :
  Sep (fun j=>if j=(n,0) then some ⟨l.length,(xs.map g).take b⟩ else if j=id then none else H j) (n+1) ((.s l,.arr (n,0) b 0 b,.list true ((xs.take b).map g))::K) ids∧∀ i ∈ ids,(fun j=>if j=(n,0) then some ⟨l.length,(xs.map g).take b⟩ else if j=id then none else H j) i=H i:=by
 generalize hH2:(fun j=>if j=(n,0) then some (⟨l.length,(xs.map g).take b⟩:Ob) else if j=id then none else H j)=H2
 obtain⟨i0,S,p1,p2⟩:=sp
 simp only[List.map_cons,Row] at p1
 obtain⟨S1,S2,p3,p4,rfl,p5⟩:=p1
 simp only[Tr] at p3
 have p3':∃ T,rowsP (Row H l) (xs.map g) (xs.map g) T∧S1=id::T:=by
  rcases p3 with ⟨p,_⟩ | ⟨id',els,es,T,e1,e2,e3,e4,e5,e6⟩
  ·cases p
  ·injection e1 with e1 _
   subst e1
   rw[hH] at e3
   injection e3 with e3
   injection e3 with _ e3
   injection e2 with _ e2
   subst e3 e2
   exact⟨T,e4,e6⟩
 obtain⟨T,t1,rfl⟩:=p3'
 have hflat:rowsP (Row H2 l) ((xs.map g).take b) ((xs.map g).take b) []:=by
  refine rowsP.fresh (fun e he=>?_) hf
  obtain⟨ix,hix,hie⟩:=List.getElem_of_mem (List.mem_of_mem_take he)
  obtain⟨e1,T1,u1,u2,u3⟩:=t1.get ix e (by rw[List.getElem?_eq_getElem hix,hie])
  exact Row.fresh_c u2 hf
 have hold:∀ i,i.1<n→i ≠ id→H2 i=H i:=fun i hi hne=>by
  subst hH2
  show (if i=(n,0) then _ else if i=id then none else H i)=H i
  rw[if_neg (fun h=>by rw[h] at hi;simp at hi),if_neg hne]
 have hlt:∀ i ∈ S2,i.1<n∧i ≠ id:=fun i hi=>⟨(p2 i (by simp[hi])).1,fun h=>p5 id (by simp) (h ▸ hi)⟩
 refine⟨⟨fun i hi=>by have:=i0 i hi;omega,(n,0)::S2,?_,?_⟩,fun i hi=>hold i (i0 i hi) fun h=>(p2 id (by simp)).2 (h ▸ hi)⟩
 ·simp only[List.map_cons,Row,Tr]
  refine⟨[(n,0)],S2,.inr ⟨(n,0),(xs.map g).take b,(xs.map g).take b,[],?_,by rw[List.map_take],?_,hflat,by simp,rfl⟩,p4.frame fun i hi=>hold i (hlt i hi).1 (hlt i hi).2,rfl,fun i hi hm=>?_⟩
  ·have:(List.take b (List.map g xs)).length=b:=by simp;omega
   rw[this]
  ·subst hH2
   show (if (n,0)=(n,0) then some _ else _)=_
   rw[if_pos rfl]
  ·simp only[List.mem_singleton] at hi
   have:=(hlt i hm).1
   rw[hi] at this;simp at this
 ·intro i hi
  rcases List.mem_cons.1 hi with rfl | hi
  ·exact⟨Nat.lt_succ_self _,fun hm=>by have:=i0 _ hm;simp at this⟩
  ·exact⟨by have:=(hlt i hi).1;omega,(p2 i (by simp[hi])).2⟩
section
variable {P:Program} {f:FuncId} {N:Nat} {k:List Item} {Q:AVal→Heap→Nat→Prop} {Ty:Types} {ρ:Env} {H:Heap} {n:Nat} {ops:Array Oper} {o:Oper} {L:List Oper} {K:List OwnE} {ids:List Id} {l:List Sh} {v:AVal} {t:TypeId} {j:TI}
theorem bind_short {α:Type} {g:α→List AVal} {xs:List α} {lo hi:Option AVal} (b:Int) (h:Sep H n ((.s l,v,.list true (xs.map g))::K) ids) (hf:∀ t ∈ l,t = .c) (hk:kd Ty t = .slice j) (hj:j.size=l.length)
  (hlo:boundOf lo 0=some 0) (hhi:boundOf hi xs.length=some b) (hb:0≤b∧b≤xs.length)
  (hc:∀ w,ShortOf v w xs.length b.toNat→evalK P f N k Q Ty ops L (ρ.put o.dst w) H n):bindE P f N k Q Ty ops ((sliceF Ty H t v lo hi).map fun z=>(z,H,n)) o L ρ H n:=by
 rcases h.formF hf with ⟨rfl,rfl⟩ | ⟨id,rfl,hH⟩
 ·simp only[List.length_nil,Int.natCast_zero,Int.ofNat_zero] at hhi hb
  have hb0:b=0:=by simpa using Int.le_antisymm hb.2 hb.1
  subst hb0
  have:sliceF Ty H t (.v (.slice none 0 0)) lo hi=some (.v (.slice none 0 0)):=by
   simp only[sliceF,hk,hlo,hhi,and_self,↓reduceIte]
  rw[this,Option.map_some,bindE_some]
  exact hc _ (.inl ⟨rfl,rfl,rfl,rfl⟩)
 ·have:sliceF Ty H t (.arr id xs.length 0 xs.length) lo hi=some (.arr id xs.length 0 b.toNat):=by
   simp only[sliceF,hk,hlo,hhi,live,hH,List.length_map,↓reduceIte]
   rw[if_pos ⟨Int.le_refl _,hb.1,hb.2,hj.symm⟩]
   simp
  rw[this,Option.map_some,bindE_some]
  exact hc _ (.inr ⟨id,rfl,rfl⟩)
theorem Runs.shortS (s:Nat) {w:AVal} {α:Type} {g:α→List AVal} {xs:List α} {b:Int} (hw:ShortOf v w xs.length b.toNat) (sp:Sep H n ((.s l,v,.list true (xs.map g))::K) ids) (hf:∀ t ∈ l,t = .c) (hb:0≤b∧b≤xs.length) (hs:ρ s=w)
  (h:∀ v' H' n',Sep H' n' ((.s l,v',.list true ((xs.take b.toNat).map g))::K) ids→n≤n'→(∀ i ∈ ids,H' i=H i)→Runs P f N k (ρ.put (some s) v') H' n' Q):Runs P f N k ρ H n Q:=by
 have hput:∀ x,x=ρ s→ρ.put (some s) x=ρ:=fun x hx=>by
  funext t
  simp only[Env.put]
  split
  ·rename_i he;rw[hx,← he]
  ·rfl
 rcases hw with ⟨rfl,rfl,h0,hx⟩ | ⟨id,rfl,rfl⟩
 ·have hxs:xs=[]:=List.length_eq_zero_iff.1 hx
  subst hxs
  have:=h (.v (.slice none 0 0)) H n (by simpa using sp) (Nat.le_refl _) (fun _ _=>rfl)
  rwa [hput _ hs.symm] at this
 ·rcases sp.formF hf with ⟨q,_⟩ | ⟨id',q,hH⟩
  ·cases q
  ·injection q with q _
   subst q
   obtain⟨p1,p2⟩:=Sep.shorten sp hH hf (b:=b.toNat) (by omega)
   have hlen:(xs.map g).length=xs.length:=by simp
   refine Runs.short (d:=0) hH (m:=b.toNat) (by rw[hlen];omega) (ρ':=ρ.put (some s) (.arr (n,0) b.toNat 0 b.toNat)) (fun t=>?_) (h _ _ _ p1 (Nat.le_succ _) p2)
   simp only[Env.put]
   split
   ·rename_i he
    exact .inr ⟨by rw[he,hlen];exact hs,rfl⟩
   ·exact .inl rfl
end
end Go.Ab
/- Contracts of spec.l1In, spec.l2Name and spec.l12Good. -/
namespace Go.Ab
open Go.Proofs
set_option linter.unusedSimpArgs false
theorem e48:Ent Tryd.prog 48:=Ent.of Tryd.func48 (by kernel_rfl) rfl
theorem e59:Ent Tryd.prog 59:=Ent.of Tryd.func59 (by kernel_rfl) rfl
theorem l1In_ok (n lo hi:Int):PureC Tryd.prog 48 [int n,int lo,int hi] (fun r=>r=bool (within n lo hi)):=by
 refine PureC.of Tryd.func48 rfl Tryd.ntmps48 (by simp) fun Q hQ=>?_
 refine Runs.seqE Ty_ok (by decide) fun k' hk'=>?_
 simp
 refine hk' _ _ _ (Runs.seqE Ty_ok (by decide) fun k' hk'=>?_)
 simp
 by_cases h:lo≤n
 all_goals
  simp[h]
  refine hk' _ _ _ (Runs.ret Tryd.func48 (RetOk.one Tryd.results48) (hQ _ _ _ _ (ResOk.v _ _ _) ?_))
  simp[within,h]
theorem isNm_bad {s:Str} {k:Nat} (hk:k<s.length) (h:lower s[k]=false):isNm s=false:=by
 have:s.all lower=false:=by
  rw[List.all_eq_false]
  exact⟨s[k],List.getElem_mem hk,by simp[h]⟩
 simp[isNm,this]
theorem l2Name_ok (s:Str) (hs:s.length≤4294967296):PureC Tryd.prog 59 [str s] (fun r=>r=bool (isNm s)):=by
 refine PureC.of Tryd.func59 rfl Tryd.ntmps59 (by simp) fun Q hQ=>?_
 refine Runs.seqE Ty_ok (by decide) fun k' hk'=>?_
 simp   -- R0
 apply hk'
 refine Runs.seq ?_
 refine Runs.seqE Ty_ok (by decide) fun k' hk'=>?_
 simp   -- R1
 apply hk'
 refine Runs.block (Runs.loopUp s.length (fun k ρ H n=>ρ 0=str s∧ρ 3=int k∧(s.take k).all lower=true) ?_ ?_)
 ·simp
 ·rintro k ρ H n hk ⟨h0,h3,hall⟩ IH
  refine Runs.seq ?_
  refine Runs.seqE Ty_ok (by decide) fun k' hk'=>?_
  simp [h0, h3]   -- R2
  apply hk'
  refine Runs.ite rfl (fun hc1 => ?_) (fun hc1 => ?_)   -- t7
  ·simp at hc1
   refine Runs.skip ?_
   refine Runs.seq ?_
   refine Runs.block ?_
   refine Runs.seqE Ty_ok (by decide) fun k' hk'=>?_
   simp [h0, h3, hc1]   -- R4
   by_cases ha:(s[k].toNat:Int)<97
   ·simp[ha]
    apply hk'
    refine Runs.ite rfl (fun _=>?_) (fun h=>by simp at h)
    refine Runs.seqE Ty_ok (by decide) fun k' hk'=>?_
    simp   -- R5
    apply hk'
    refine Runs.ret Tryd.func59 (RetOk.one Tryd.results59) (hQ _ _ _ _ (.v _ _ _) ?_)
    rw[isNm_bad hc1 (by simp[lower];omega)]
   ·by_cases hz:(122:Int)<s[k].toNat
    ·simp[ha,hz,h0,h3,hc1]
     apply hk'
     refine Runs.ite rfl (fun _=>?_) (fun h=>by simp at h)
     refine Runs.seqE Ty_ok (by decide) fun k' hk'=>?_
     simp   -- R5
     apply hk'
     refine Runs.ret Tryd.func59 (RetOk.one Tryd.results59) (hQ _ _ _ _ (.v _ _ _) ?_)
     rw[isNm_bad hc1 (by simp[lower];omega)]
    ·simp[ha,hz,h0,h3,hc1]
     apply hk'
     refine Runs.ite rfl (fun h=>by simp at h) (fun _=>?_)
     refine Runs.skip ?_
     refine Runs.inBlock ?_
     refine Runs.evalE Ty_ok (by decide) fun k' hk'=>?_
     simp [h3, wrap_succ (show k < 4611686018427387904 by omega)]   -- R3
     apply hk'
     refine IH hc1 _ _ _ ?_
     rw[List.take_succ_eq_append_getElem hc1,List.all_append,hall]
     simp[h0,lower]
     omega
  ·simp at hc1
   refine Runs.exit rfl ?_
   refine Runs.seqE Ty_ok (by decide) fun k' hk'=>?_
   simp [h0]   -- R6
   refine RunK.callA Ty_ok (l1In_ok s.length 1 4) e48 (.cons (.v _ _ _) (.cons (.v _ _ _) (.cons (.v _ _ _) .nil))) (by decide) (by decide) rfl (by simp) ?_
   rintro _ rfl
   simp
   apply hk'
   refine Runs.ret Tryd.func59 (RetOk.one Tryd.results59) (hQ _ _ _ _ (.v _ _ _) ?_)
   rw[List.take_of_length_le hc1] at hall
   simp only[isNm,hall,Bool.and_true]
end Go.Ab
/- Contracts of impl.isLink, impl.isParent, impl.isNode and of their like in the reference. -/
namespace Go.Ab
open Go.Proofs
set_option linter.unusedSimpArgs false
theorem e33:Ent Tryd.prog 33:=Ent.of Tryd.func33 (by kernel_rfl) rfl
theorem e53:Ent Tryd.prog 53:=Ent.of Tryd.func53 (by kernel_rfl) rfl
theorem e30:Ent Tryd.prog 30:=Ent.of Tryd.func30 (by kernel_rfl) rfl
theorem e52:Ent Tryd.prog 52:=Ent.of Tryd.func52 (by kernel_rfl) rfl
theorem e19:Ent Tryd.prog 19:=Ent.of Tryd.func19 (by kernel_rfl) rfl
theorem e23:Ent Tryd.prog 23:=Ent.of Tryd.func23 (by kernel_rfl) rfl
theorem isLink_ok (b:Big) (l:Int) (he:0≤b.edges∧b.edges≤8) (ho:b.outer.length≤1048576):PureC Tryd.prog 33 [encB false b,int l] (fun r=>r=bool (okLink b l)):=by
 have hw1:IntKind.i64.wrap (b.edges+b.outer.length)=b.edges+b.outer.length:=by rw[wrap64]<;>omega
 have hw2:IntKind.i64.wrap (b.edges+b.outer.length - 1)=b.edges+b.outer.length - 1:=by rw[wrap64]<;>omega
 refine PureC.of Tryd.func33 rfl Tryd.ntmps33 (by simp) fun Q hQ=>?_
 refine Runs.seqE Ty_ok (by decide) fun k' hk'=>?_
 simp [encB, Big.cells]   -- R0
 apply hk'
 refine Runs.seqE Ty_ok (by decide) fun k' hk'=>?_
 simp [encS, hw1, hw2]   -- R1
 refine RunK.callA Ty_ok (within_ok l 0 (b.edges+b.outer.length - 1)) e27 (.cons (.v _ _ _) (.cons (.v _ _ _) (.cons (.v _ _ _) .nil))) (by decide) (by decide) rfl (by simp) ?_
 rintro _ rfl
 simp
 apply hk'
 exact Runs.ret Tryd.func33 (RetOk.one Tryd.results33) (hQ _ _ _ _ (.v _ _ _) rfl)
theorem l2Link_ok (b:Big) (l:Int) (he:0≤b.edges∧b.edges≤8) (ho:b.outer.length≤1048576):PureC Tryd.prog 53 [encB false b,int l] (fun r=>r=bool (okLink b l)):=by
 have hw1:IntKind.i64.wrap (b.edges+b.outer.length)=b.edges+b.outer.length:=by rw[wrap64]<;>omega
 have hw2:IntKind.i64.wrap (b.edges+b.outer.length - 1)=b.edges+b.outer.length - 1:=by rw[wrap64]<;>omega
 refine PureC.of Tryd.func53 rfl Tryd.ntmps53 (by simp) fun Q hQ=>?_
 refine Runs.seqE Ty_ok (by decide) fun k' hk'=>?_
 simp [encB, Big.cells]   -- R0
 apply hk'
 refine Runs.seqE Ty_ok (by decide) fun k' hk'=>?_
 simp [encS, hw1, hw2]   -- R1
 refine RunK.callA Ty_ok (l1In_ok l 0 (b.edges+b.outer.length - 1)) e48 (.cons (.v _ _ _) (.cons (.v _ _ _) (.cons (.v _ _ _) .nil))) (by decide) (by decide) rfl (by simp) ?_
 rintro _ rfl
 simp
 apply hk'
 exact Runs.ret Tryd.func53 (RetOk.one Tryd.results53) (hQ _ _ _ _ (.v _ _ _) rfl)
def isNodeB (b:Big) (x:Int):Bool:=within x 0 ((b.nodes.length:Int) - 1)
theorem isNodeB_ok (b:Big) (x:Int) (hn:b.nodes.length≤1048576):PureC Tryd.prog 19 [encB false b,int x] (fun r=>r=bool (isNodeB b x)):=by
 have hw2:IntKind.i64.wrap ((b.nodes.length:Int) - 1)=(b.nodes.length:Int) - 1:=by rw[wrap64]<;>omega
 refine PureC.of Tryd.func19 rfl Tryd.ntmps19 (by simp) fun Q hQ=>?_
 refine Runs.seqE Ty_ok (by decide) fun k' hk'=>?_
 simp [encB, Big.cells]   -- R0
 apply hk'
 refine Runs.seqE Ty_ok (by decide) fun k' hk'=>?_
 simp [encN, hw2]   -- R1
 refine RunK.callA Ty_ok (within_ok x 0 ((b.nodes.length:Int) - 1)) e27 (.cons (.v _ _ _) (.cons (.v _ _ _) (.cons (.v _ _ _) .nil))) (by decide) (by decide) rfl (by simp) ?_
 rintro _ rfl
 simp
 apply hk'
 exact Runs.ret Tryd.func19 (RetOk.one Tryd.results19) (hQ _ _ _ _ (.v _ _ _) rfl)
theorem l2Is_ok (b:Big) (x:Int) (hn:b.nodes.length≤1048576):PureC Tryd.prog 23 [encB false b,int x] (fun r=>r=bool (isNodeB b x)):=by
 have hw2:IntKind.i64.wrap ((b.nodes.length:Int) - 1)=(b.nodes.length:Int) - 1:=by rw[wrap64]<;>omega
 refine PureC.of Tryd.func23 rfl Tryd.ntmps23 (by simp) fun Q hQ=>?_
 refine Runs.seqE Ty_ok (by decide) fun k' hk'=>?_
 simp [encB, Big.cells]   -- R0
 apply hk'
 refine Runs.seqE Ty_ok (by decide) fun k' hk'=>?_
 simp [encN, hw2]   -- R1
 refine RunK.callA Ty_ok (l1In_ok x 0 ((b.nodes.length:Int) - 1)) e48 (.cons (.v _ _ _) (.cons (.v _ _ _) (.cons (.v _ _ _) .nil))) (by decide) (by decide) rfl (by simp) ?_
 rintro _ rfl
 simp
 apply hk'
 exact Runs.ret Tryd.func23 (RetOk.one Tryd.results23) (hQ _ _ _ _ (.v _ _ _) rfl)
def CtlOk (sig:Sig) (b:Big) (below:Nat):Prop:=∀ i,i<below→0≤(b.nodes.getD i default).control∧(b.nodes.getD i default).control<sig.length
theorem isParent_ok (sig:Sig) (b:Big) (parent:Int) (below:Nat) (hr:0≤b.roots∧b.roots≤4) (hb:below≤b.nodes.length) (hc:CtlOk sig b below) :
  PureC Tryd.prog 30 [encB false b,encSig false sig,int parent,int below] (fun r=>r=bool (okParent sig b parent below)):=by
 refine PureC.of Tryd.func30 rfl Tryd.ntmps30 (by simp) fun Q hQ=>?_
 refine Runs.seqE Ty_ok (by decide) fun k' hk'=>?_
 simp [encB, Big.cells]   -- R0
 apply hk'
 refine Runs.seq ?_
 refine Runs.seqE Ty_ok (by decide) fun k' hk'=>?_
 simp   -- R1
 apply hk'
 refine Runs.ite rfl (fun hc1 => ?_) (fun hc1 => ?_)   -- t10
 ·have hc1:parent<0:=by simpa using hc1
  have hw:IntKind.i64.wrap (0 - b.roots) = -b.roots:=by rw[wrap64]<;>omega
  refine Runs.seqE Ty_ok (by decide) fun k' hk'=>?_
  have hw':IntKind.i64.wrap (-b.roots) = -b.roots:=by rw[wrap64]<;>omega
  simp [hw, hw']   -- R2
  apply hk'
  exact Runs.ret Tryd.func30 (RetOk.one Tryd.results30) (hQ _ _ _ _ (.v _ _ _) (by simp[okParent,hc1]))
 ·have hc1:¬ parent<0:=by simpa using hc1
  refine Runs.skip ?_
  refine Runs.seqE Ty_ok (by decide) fun k' hk'=>?_
  by_cases hlt:parent<(below:Int)
  ·obtain⟨q,rfl⟩:∃ q:Nat,parent=q:=⟨parent.toNat,by omega⟩
   have hq:q<b.nodes.length:=by omega
   have hcq:=hc q (by omega)
   have hg:b.nodes.getD q default=b.nodes[q]:=by simp[hq]
   rw[hg] at hcq
   obtain⟨c,hcc⟩:∃ c:Nat,b.nodes[q].control=c:=⟨b.nodes[q].control.toNat,by omega⟩
   have hcl:c<sig.length:=by omega
   simp [hlt, encN, encSig, hq, GNode.cells, hcc, hcl, Control.cells, guardOf]   -- R3
   apply hk'
   refine Runs.ret Tryd.func30 (RetOk.one Tryd.results30) (hQ _ _ _ _ (.v _ _ _) ?_)
   have hlt':q<below:=by omega
   simp[okParent,hlt',hq,hcc,hcl]
   rfl
  ·simp [hlt, guardOf]   -- R3
   apply hk'
   exact Runs.ret Tryd.func30 (RetOk.one Tryd.results30) (hQ _ _ _ _ (.v _ _ _) (by simp[okParent,hc1,hlt]))
theorem l2Under_ok (sig:Sig) (b:Big) (parent:Int) (below:Nat) (hp:I64 parent) (hr:0≤b.roots∧b.roots≤4) (hb:below≤b.nodes.length) (hc:CtlOk sig b below) :
  PureC Tryd.prog 52 [encSig false sig,encB false b,int parent,int below] (fun r=>r=bool (okParent sig b parent below)):=by
 obtain⟨hp1,hp2⟩:=hp
 refine PureC.of Tryd.func52 rfl Tryd.ntmps52 (by simp) fun Q hQ=>?_
 refine Runs.seqE Ty_ok (by decide) fun k' hk'=>?_
 simp [encB, Big.cells]   -- R0
 apply hk'
 refine Runs.seq ?_
 refine Runs.seqE Ty_ok (by decide) fun k' hk'=>?_
 simp   -- R1
 apply hk'
 refine Runs.ite rfl (fun hc1 => ?_) (fun hc1 => ?_)   -- t10
 ·have hc1:parent<0:=by simpa using hc1
  have hw:IntKind.i64.wrap (-1 - parent) = -1 - parent:=by rw[wrap64]<;>omega
  have hw2:IntKind.i64.wrap (b.roots - 1)=b.roots - 1:=by rw[wrap64]<;>omega
  refine Runs.seqE Ty_ok (by decide) fun k' hk'=>?_
  simp [hw, hw2]   -- R2
  refine RunK.callA Ty_ok (l1In_ok (-1 - parent) 0 (b.roots - 1)) e48 (.cons (.v _ _ _) (.cons (.v _ _ _) (.cons (.v _ _ _) .nil))) (by decide) (by decide) rfl (by simp) ?_
  rintro _ rfl
  simp
  apply hk'
  refine Runs.ret Tryd.func52 (RetOk.one Tryd.results52) (hQ _ _ _ _ (.v _ _ _) ?_)
  have:within (-1 - parent) 0 (b.roots - 1)=decide (-b.roots≤parent):=by
   simp only[within]
   by_cases h : -b.roots≤parent
   ·simp[h];omega
   ·simp[h];omega
  simp[okParent,hc1,this]
 ·have hc1:¬ parent<0:=by simpa using hc1
  refine Runs.skip ?_
  refine Runs.seqE Ty_ok (by decide) fun k' hk'=>?_
  by_cases hlt:parent<(below:Int)
  ·obtain⟨q,rfl⟩:∃ q:Nat,parent=q:=⟨parent.toNat,by omega⟩
   have hq:q<b.nodes.length:=by omega
   have hcq:=hc q (by omega)
   have hg:b.nodes.getD q default=b.nodes[q]:=by simp[hq]
   rw[hg] at hcq
   obtain⟨c,hcc⟩:∃ c:Nat,b.nodes[q].control=c:=⟨b.nodes[q].control.toNat,by omega⟩
   have hcl:c<sig.length:=by omega
   simp [hlt, encN, encSig, hq, GNode.cells, hcc, hcl, Control.cells, guardOf]   -- R3
   apply hk'
   refine Runs.ret Tryd.func52 (RetOk.one Tryd.results52) (hQ _ _ _ _ (.v _ _ _) ?_)
   have hlt':q<below:=by omega
   simp[okParent,hlt',hq,hcc,hcl]
   rfl
  ·simp [hlt, guardOf]   -- R3
   apply hk'
   exact Runs.ret Tryd.func52 (RetOk.one Tryd.results52) (hQ _ _ _ _ (.v _ _ _) (by simp[okParent,hc1,hlt]))
end Go.Ab
/- Contracts of impl.areNames and spec.l2Names. -/
namespace Go.Ab
open Go.Proofs
set_option linter.unusedSimpArgs false
theorem e28:Ent Tryd.prog 28:=Ent.of Tryd.func28 (by kernel_rfl) rfl
theorem e49:Ent Tryd.prog 49:=Ent.of Tryd.func49 (by kernel_rfl) rfl
theorem less_not:∀ (s p:Str),(Op.bytesLess s p || s == p) = !Op.bytesLess p s
 | [],[]=>by simp[Op.bytesLess]
 | [],_::_=>by simp[Op.bytesLess]
 | _::_,[]=>by simp[Op.bytesLess]
 | a::x,b::y=>by
  have ih:=less_not x y
  simp only[Op.bytesLess]
  rcases Nat.lt_trichotomy a.toNat b.toNat with h | h | h
  ·have h1:a<b:=h
   have h2:¬ b<a:=fun h'=>by have h':b.toNat<a.toNat:=h';omega
   have h3:(b == a)=false:=by
    rw[beq_eq_false_iff_ne]
    rintro rfl
    omega
   simp[h1,h2,h3]
  ·have h0:a=b:=UInt8.toNat_inj.1 h
   subst h0
   have h2:¬ a<a:=fun h'=>by have h':a.toNat<a.toNat:=h';omega
   simp[h2]
   rw[← ih]
   try (cases Op.bytesLess x y<;>simp)
   try (by_cases hxy:x=y<;>simp[hxy])
  ·have h1:b<a:=h
   have h2:¬ a<b:=fun h'=>by have h':a.toNat<b.toNat:=h';omega
   have h3:(a == b)=false:=by
    rw[beq_eq_false_iff_ne]
    rintro rfl
    omega
   have h4:¬ a=b:=by simpa using h3
   simp[h1,h2,h4]
theorem all_range_bad {n k:Nat} {q:Nat→Bool} (hk:k<n) (h:q k=false):(List.range n).all q=false:=by
 rw[List.all_eq_false]
 exact⟨k,by simpa using hk,by simp[h]⟩
theorem all_range_end {n:Nat} {q:Nat→Bool} (h:∀ i,i<n→q i=true):(List.range n).all q=true:=by
 simpa[List.all_eq_true] using h
def okName (l:List Str) (i:Nat):Bool:=isNm (l.getD i []) && ascends l i
theorem goodNames_eq (l:List Str):goodNames l=(decide (l.length≤16) && (List.range l.length).all (okName l)):=rfl
theorem areNames_ok (l:List Str) (hl:l.length≤1048576) (hs:∀ s ∈ l,s.length≤1048576):PureC Tryd.prog 28 [encS false l] (fun r=>r=bool (goodNames l)):=by
 refine PureC.of Tryd.func28 rfl Tryd.ntmps28 (by simp) fun Q hQ=>?_
 refine Runs.seqE Ty_ok (by decide) fun k' hk'=>?_
 simp [encS]   -- R0
 apply hk'
 refine Runs.seq ?_
 refine Runs.seqE Ty_ok (by decide) fun k' hk'=>?_
 simp   -- R1
 apply hk'
 refine Runs.block (Runs.loopUp l.length (fun k ρ H n=>ρ 0 = .list false (l.map strC)∧ρ 5 = .list false (l.map strC)∧ρ 6=int l.length∧ρ 7=int k∧∀ i,i<k→okName l i=true) ?_ ?_)
 ·simp
 ·rintro k ρ H n hk ⟨h0,h5,h6,h7,hall⟩ IH
  refine Runs.seqE Ty_ok (by decide) fun k' hk'=>?_
  simp [h6, h7]   -- R2
  apply hk'
  refine Runs.seq ?_
  refine Runs.ite rfl (fun hc1 => ?_) (fun hc1 => ?_)   -- t8
  ·have hc1:k<l.length:=by simpa using hc1
   refine Runs.skip ?_
   refine Runs.seq ?_
   refine Runs.block ?_
   refine Runs.seqE Ty_ok (by decide) fun k' hk'=>?_
   simp [h5, h7, hc1, strC]   -- R3
   apply hk'
   refine Runs.seqE Ty_ok (by decide) fun k' hk'=>?_
   have fin:∀ ρ:Env,ρ 0 = .list false (l.map strC)→ρ 5 = .list false (l.map strC)→ρ 6=int l.length→ρ 7=int k→ρ 27=bool (!okName l k)→Runs Tryd.prog 28 32 k' ρ H n Q:=by
    intro ρ h0 h5 h6 h7 h27
    apply hk'
    refine Runs.ite h27 (fun hc2 => ?_) (fun hc2 => ?_)   -- t27
    ·have hb:okName l k=false:=by simpa using hc2
     refine Runs.seqE Ty_ok (by decide) fun k' hk'=>?_
     simp   -- R5
     apply hk'
     exact Runs.ret Tryd.func28 (RetOk.one Tryd.results28) (hQ _ _ _ _ (.v _ _ _) (by rw[goodNames_eq,all_range_bad hc1 hb,Bool.and_false]))
    ·have hb:okName l k=true:=by simpa using hc2
     refine Runs.skip ?_
     refine Runs.inBlock ?_
     refine Runs.evalE Ty_ok (by decide) fun k' hk'=>?_
     simp [h7, wrap_succ (show k < 4611686018427387904 by omega)]   -- R6
     apply hk'
     refine IH hc1 _ _ _ ⟨by simp[h0],by simp[h5],by simp[h6],by simp,fun i hi=>?_⟩
     rcases Nat.lt_or_ge i k with h | h
     ·exact hall i h
     ·rw[show i=k by omega];exact hb
   have hgk:l.getD k []=l[k]:=by simp[hc1]
   simp   -- R4
   refine RunK.callA Ty_ok (isName_ok l[k] (Nat.le_trans (hs _ (List.getElem_mem hc1)) (by decide))) e54 (.cons (.v _ _ _) .nil) (by decide) (by decide) rfl (by simp) ?_
   rintro _ rfl
   cases hnm:isNm l[k]
   ·simp[guardOf]
    exact fin _ (by simp[h0]) (by simp[h5]) (by simp[h6]) (by simp[h7]) (by simp[okName,hc1,hnm])
   ·by_cases hk0:k=0
    ·subst hk0
     simp[guardOf]
     exact fin _ (by simp[h0]) (by simp[h5]) (by simp[h6]) (by simp[h7]) (by simp[okName,hc1,hnm,ascends])
    ·have hk1:0<k:=by omega
     have hw:IntKind.i64.wrap ((k:Int) - 1)=((k - 1:Nat):Int):=by rw[wrap64]<;>omega
     have hkl:k - 1<l.length:=by omega
     have hgk1:l.getD (k - 1) []=l[k - 1]:=by simp[hkl]
     have hp:=less_not l[k] l[k - 1]
     simp[guardOf,hk1,h0,hw,hkl,strC]
     refine fin _ (by simp[h0]) (by simp[h5]) (by simp[h6]) (by simp[h7]) ?_
     simp only[okName,hgk,hnm,ascends,hgk1,hk0,decide_false,Bool.false_or,Bool.true_and]
     rw[← hp]
     simp
  ·have hc1:¬ k<l.length:=by simpa using hc1
   have hke:k=l.length:=by omega
   subst hke
   refine Runs.exit rfl ?_
   refine Runs.seqE Ty_ok (by decide) fun k' hk'=>?_
   simp [h0]   -- R7
   apply hk'
   refine Runs.ret Tryd.func28 (RetOk.one Tryd.results28) (hQ _ _ _ _ (.v _ _ _) ?_)
   rw[goodNames_eq,all_range_end hall]
   simp
   omega
end Go.Ab
/- Contracts of spec.l2Names, impl.innerNames and spec.l2Inner. -/
namespace Go.Ab
open Go.Proofs
set_option linter.unusedSimpArgs false
theorem e29:Ent Tryd.prog 29:=Ent.of Tryd.func29 (by kernel_rfl) rfl
theorem e50:Ent Tryd.prog 50:=Ent.of Tryd.func50 (by kernel_rfl) rfl
theorem l2Names_ok (l:List Str) (hl:l.length≤1048576) (hs:∀ s ∈ l,s.length≤1048576):PureC Tryd.prog 49 [encS false l] (fun r=>r=bool (goodNames l)):=by
 refine PureC.of Tryd.func49 rfl Tryd.ntmps49 (by simp) fun Q hQ=>?_
 refine Runs.seqE Ty_ok (by decide) fun k' hk'=>?_
 simp [encS]   -- R0
 apply hk'
 refine Runs.seq ?_
 refine Runs.seqE Ty_ok (by decide) fun k' hk'=>?_
 simp   -- R1
 apply hk'
 refine Runs.block (Runs.loopUp l.length (fun k ρ H n=>ρ 0 = .list false (l.map strC)∧ρ 3=int k∧∀ i,i<k→okName l i=true) ?_ ?_)
 ·simp
 ·rintro k ρ H n hk ⟨h0,h3,hall⟩ IH
  refine Runs.seq ?_
  refine Runs.seqE Ty_ok (by decide) fun k' hk'=>?_
  simp [h0, h3]   -- R2
  apply hk'
  refine Runs.ite rfl (fun hc1 => ?_) (fun hc1 => ?_)   -- t7
  ·have hc1:k<l.length:=by simpa using hc1
   refine Runs.skip ?_
   refine Runs.seq ?_
   refine Runs.block ?_
   refine Runs.seqD Ty_ok kindOp_ok draws (by decide) (by kernel_rfl) fun k' hk'=>?_
   have fin:∀ ρ:Env,ρ 0 = .list false (l.map strC)→ρ 3=int k→ρ 31=bool (!okName l k)→Runs Tryd.prog 49 35 k' ρ H n Q:=by
    intro ρ h0 h3 h31
    apply hk'
    refine Runs.ite h31 (fun hc2=>?_) (fun hc2=>?_)
    ·have hb:okName l k=false:=by simpa using hc2
     refine Runs.seqE Ty_ok (by decide) fun k' hk'=>?_
     simp   -- R5
     apply hk'
     exact Runs.ret Tryd.func49 (RetOk.one Tryd.results49) (hQ _ _ _ _ (.v _ _ _) (by rw[goodNames_eq,all_range_bad hc1 hb,Bool.and_false]))
    ·have hb:okName l k=true:=by simpa using hc2
     refine Runs.skip ?_
     refine Runs.inBlock ?_
     refine Runs.evalE Ty_ok (by decide) fun k' hk'=>?_
     simp [h3, wrap_succ (show k < 4611686018427387904 by omega)]   -- R3
     apply hk'
     refine IH hc1 _ _ _ ⟨by simp[h0],by simp,fun i hi=>?_⟩
     rcases Nat.lt_or_ge i k with h | h
     ·exact hall i h
     ·rw[show i=k by omega];exact hb
   have hgk:l.getD k []=l[k]:=by simp[hc1]
   simp [h0, h3, hc1, strC]   -- R4
   refine RunDK.callA Ty_ok kindOp_ok (l2Name_ok l[k] (Nat.le_trans (hs _ (List.getElem_mem hc1)) (by decide))) e59 (.cons (.v _ _ _) .nil) (by decide) rfl (by simp) ?_
   cases hnm:isNm l[k]
   ·simp[guardOf]
    exact fin _ (by simp[h0,strC]) (by simp[h3]) (by simp[okName,hc1,hnm])
   ·by_cases hk0:k=0
    ·subst hk0
     simp[h3,guardOf]
     exact fin _ (by simp[h0,strC]) (by simp[h3]) (by simp[okName,hc1,hnm,ascends])
    ·have hk1:0<k:=by omega
     have hw:IntKind.i64.wrap ((k:Int) - 1)=((k - 1:Nat):Int):=by rw[wrap64]<;>omega
     have hkl:k - 1<l.length:=by omega
     have hgk1:l.getD (k - 1) []=l[k - 1]:=by simp[hkl]
     simp[guardOf,hk1,h0,h3,hw,hkl,hc1,strC]
     refine fin _ (by simp[h0,strC]) (by simp[h3]) ?_
     simp only[okName,hgk,hnm,ascends,hgk1,hk0,decide_false,Bool.false_or,Bool.true_and]
     simp
  ·have hc1:¬ k<l.length:=by simpa using hc1
   have hke:k=l.length:=by omega
   subst hke
   refine Runs.exit rfl ?_
   refine Runs.seqE Ty_ok (by decide) fun k' hk'=>?_
   simp [h0]   -- R6
   apply hk'
   refine Runs.ret Tryd.func49 (RetOk.one Tryd.results49) (hQ _ _ _ _ (.v _ _ _) ?_)
   rw[goodNames_eq,all_range_end hall]
   simp
   omega
def names (b:Big):List Str:=b.inner.map (·.name)
theorem innerNames_ok (b:Big) (hl:b.inner.length≤1048576):PureC Tryd.prog 29 [encB false b] (fun r=>r=encS true (names b)):=by
 refine PureC.of Tryd.func29 rfl Tryd.ntmps29 (by simp) fun Q hQ=>?_
 refine Runs.seqE Ty_ok (by decide) fun k' hk'=>?_
 simp [encB, Big.cells]   -- R0
 apply hk'
 refine Runs.seqE Ty_ok (by decide) fun k' hk'=>?_
 simp   -- R1
 apply hk'
 refine Runs.seq ?_
 refine Runs.seqE Ty_ok (by decide) fun k' hk'=>?_
 simp [encW]   -- R2
 apply hk'
 refine Runs.block (Runs.loopUp b.inner.length (fun k ρ H n=>ρ 8 = .list false (b.inner.map Wire.cells)∧ρ 9=int b.inner.length∧ρ 10=int k∧ρ 3 = .arr (1,6) k 0 k∧H (1,6)=some ⟨1,((names b).take k).map strC⟩) ?_ ?_)
 ·simp
 ·rintro k ρ H n hk ⟨h8,h9,h10,h3,hH⟩ IH
  refine Runs.seqE Ty_ok (by decide) fun k' hk'=>?_
  simp [h9, h10]   -- R3
  apply hk'
  refine Runs.seq ?_
  refine Runs.ite rfl (fun hc1 => ?_) (fun hc1 => ?_)   -- t11
  ·have hc1:k<b.inner.length:=by simpa using hc1
   have htk:(((names b).take k).map strC).length=k:=by simp[names];omega
   have hts:(names b).take (k+1)=(names b).take k++[b.inner[k].name]:=by
    rw[List.take_succ_eq_append_getElem (by simpa[names] using hc1)]
    simp[names]
   refine Runs.skip ?_
   refine Runs.seq ?_
   refine Runs.block ?_
   refine Runs.seqE Ty_ok (by decide) fun k' hk'=>?_
   simp [h8, h10, hc1, Wire.cells]   -- R4
   apply hk'
   refine Runs.evalE Ty_ok (by decide) fun k' hk'=>?_
   generalize hels:((names b).take k).map strC=els at hH htk
   simp [h3, hH, htk, live, show k ≤ 1073741823 by omega]   -- R5
   apply hk'
   refine Runs.inBlock ?_
   refine Runs.evalE Ty_ok (by decide) fun k' hk'=>?_
   simp [h10, wrap_succ (show k < 4611686018427387904 by omega)]   -- R6
   apply hk'
   refine IH hc1 _ _ _ ⟨by simp[h8],by simp[h9],by simp,by simp,?_⟩
   simp[hts,← hels,strC]
  ·have hc1:¬ k<b.inner.length:=by simpa using hc1
   have hke:k=b.inner.length:=by omega
   subst hke
   refine Runs.exit rfl ?_
   refine Runs.seqE Ty_ok (by decide) fun k' hk'=>?_
   simp [h3]   -- R7
   apply hk'
   have he:(names b).take b.inner.length=names b:=List.take_of_length_le (by simp[names])
   rw[he] at hH
   exact Runs.ret Tryd.func29 (RetOk.one Tryd.results29) (hQ _ _ _ _ (.of (Ret.arrF (by simp[live,hH,names];rfl) (by simp[strC]))) rfl)
theorem l2Inner_ok (b:Big) (hl:b.inner.length≤1048576):PureC Tryd.prog 50 [encB false b] (fun r=>r=encS true (names b)):=by
 refine PureC.of Tryd.func50 rfl Tryd.ntmps50 (by simp) fun Q hQ=>?_
 refine Runs.seqE Ty_ok (by decide) fun k' hk'=>?_
 simp [encB, Big.cells]   -- R0
 apply hk'
 refine Runs.seqE Ty_ok (by decide) fun k' hk'=>?_
 simp   -- R1
 apply hk'
 refine Runs.seq ?_
 refine Runs.seqE Ty_ok (by decide) fun k' hk'=>?_
 simp [encW]   -- R2
 apply hk'
 refine Runs.block (Runs.loopUp b.inner.length (fun k ρ H n=>ρ 1 = .ptr (0,1) 1 0 0∧H (0,1)=some ⟨6,[b.cells false]⟩∧ρ 4=int k∧ρ 3 = .arr (1,5) k 0 k∧H (1,5)=some ⟨1,((names b).take k).map strC⟩) ?_ ?_)
 ·simp[Big.cells,encW]
 ·rintro k ρ H n hk ⟨h1,hb,h4,h3,hH⟩ IH
  refine Runs.seq ?_
  refine Runs.seqE Ty_ok (by decide) fun k' hk'=>?_
  simp [h1, hb, h4, Big.cells, encW]   -- R3
  apply hk'
  refine Runs.ite rfl (fun hc1 => ?_) (fun hc1 => ?_)   -- t10
  ·have hc1:k<b.inner.length:=by simpa using hc1
   have htk:(((names b).take k).map strC).length=k:=by simp[names];omega
   have hts:(names b).take (k+1)=(names b).take k++[b.inner[k].name]:=by
    rw[List.take_succ_eq_append_getElem (by simpa[names] using hc1)]
    simp[names]
   refine Runs.skip ?_
   refine Runs.seq ?_
   refine Runs.block ?_
   refine Runs.evalE Ty_ok (by decide) fun k' hk'=>?_
   generalize hels:((names b).take k).map strC=els at hH htk
   simp [h1, hb, h3, h4, hH, htk, hc1, live, Big.cells, encW, Wire.cells, show k ≤ 1073741823 by omega]   -- R5
   apply hk'
   refine Runs.inBlock ?_
   refine Runs.evalE Ty_ok (by decide) fun k' hk'=>?_
   simp [h4, wrap_succ (show k < 4611686018427387904 by omega)]   -- R4
   apply hk'
   refine IH hc1 _ _ _ ⟨by simp[h1],by simp[hb,Big.cells,encW],by simp,by simp,?_⟩
   simp[hts,← hels,strC]
  ·have hc1:¬ k<b.inner.length:=by simpa using hc1
   have hke:k=b.inner.length:=by omega
   subst hke
   refine Runs.exit rfl ?_
   refine Runs.seqE Ty_ok (by decide) fun k' hk'=>?_
   simp [h3]   -- R6
   apply hk'
   have he:(names b).take b.inner.length=names b:=List.take_of_length_le (by simp[names])
   rw[he] at hH
   exact Runs.ret Tryd.func50 (RetOk.one Tryd.results50) (hQ _ _ _ _ (.of (Ret.arrF (by simp[live,hH,names];rfl) (by simp[strC]))) rfl)
end Go.Ab
/- Contracts of slices.IndexFunc and slices.ContainsFunc at three types. By program. -/
namespace Go.Ab
open Go.Proofs
set_option linter.unusedSimpArgs false
def idxF {α:Type} (l:List α) (p:α→Bool):Int:=if l.findIdx p<l.length then (l.findIdx p:Int) else -1
theorem idxF_at {α:Type} {l:List α} {p:α→Bool} {k:Nat} (hk:k<l.length) (h:p l[k]=true) (hno:∀ i (h:i<l.length),i<k→p l[i]=false):idxF l p=k:=by
 have:l.findIdx p=k:=(List.findIdx_eq hk).2 ⟨h,fun j hj=>hno j (by omega) hj⟩
 rw[idxF,this,if_pos hk]
theorem idxF_no {α:Type} {l:List α} {p:α→Bool} (hno:∀ i (h:i<l.length),p l[i]=false):idxF l p = -1:=by
 have:l.findIdx p=l.length:=List.findIdx_eq_length.2 fun x hx=>by
  obtain⟨i,hi,rfl⟩:=List.getElem_of_mem hx
  exact hno i hi
 rw[idxF,this,if_neg (Nat.lt_irrefl _)]
theorem idxF_any {α:Type} (l:List α) (p:α→Bool):decide (0≤idxF l p)=l.any p:=by
 unfold idxF
 cases h:l.any p
 ·have:l.findIdx p=l.length:=List.findIdx_eq_length.2 fun x hx=>by
   rw[List.any_eq_false] at h
   simpa using h x hx
  rw[if_neg (by omega)]
  simp
 ·have:l.findIdx p<l.length:=by
   rw[List.findIdx_lt_length]
   simpa[List.any_eq_true] using h
  rw[if_pos this]
  simp
theorem e57:Ent Tryd.prog 57:=Ent.of Tryd.func57 (by kernel_rfl) rfl
theorem e31:Ent Tryd.prog 31:=Ent.of Tryd.func31 (by kernel_rfl) rfl
theorem indexFuncI_ok {H:Heap} {n:Nat} {cl:AVal} (t:Bool) (l:List (Int)) (p:Int→Bool) (hl:l.length≤1048576) (hcl:∀ x ∈ l,ClosC Tryd.prog H n cl [int x] (fun r=>r=bool (p x))) :
  StillC Tryd.prog 57 [.list t (l.map intC),cl] H n (fun r=>r=int (idxF l p)):=by
 refine StillC.of Tryd.func57 rfl Tryd.ntmps57 (by simp) fun Q _ hQ=>?_
 refine Runs.seqE Ty_ok (by decide) fun k' hk'=>?_
 simp   -- R0
 apply hk'
 refine Runs.seq ?_
 refine Runs.seqE Ty_ok (by decide) fun k' hk'=>?_
 simp   -- R1
 apply hk'
 refine Runs.block (Runs.loopUp l.length (fun k ρ H' n'=>ρ 0 = .list t (l.map intC)∧ρ 1=cl∧ρ 7=int l.length∧ρ 8=int k∧H'=H∧n'=n∧∀ i (h:i<l.length),i<k→p l[i]=false) ?_ ?_)
 ·simp
 ·rintro k ρ H' n' hk ⟨h0,h1,h7,h8,rfl,rfl,hno⟩ IH
  refine Runs.seqE Ty_ok (by decide) fun k' hk'=>?_
  simp [h7, h8]   -- R2
  apply hk'
  refine Runs.seq ?_
  refine Runs.ite rfl (fun hc1 => ?_) (fun hc1 => ?_)   -- t9
  ·have hc1:k<l.length:=by simpa using hc1
   refine Runs.skip ?_
   refine Runs.seq ?_
   refine Runs.block ?_
   refine Runs.seqE Ty_ok (by decide) fun k' hk'=>?_
   simp [h8]   -- R3
   apply hk'
   refine Runs.seqE Ty_ok (by decide) fun k' hk'=>?_
   simp [h0, h1, hc1, intC]   -- R4
   refine RunK.callF Ty_ok (hcl l[k] (List.getElem_mem hc1)) (by decide) (by decide) (by simp[h1]) (by simp) ?_
   rintro _ rfl
   simp
   apply hk'
   refine Runs.ite rfl (fun hc2 => ?_) (fun hc2 => ?_)   -- t16
   ·have hc2:p l[k]=true:=by simpa using hc2
    refine Runs.seqE Ty_ok (by decide) fun k' hk'=>?_
    simp   -- R5
    apply hk'
    refine Runs.ret Tryd.func57 (RetOk.one Tryd.results57) (hQ _ _ _ _ (.bnd (.v _)) (Frame.refl _ _) ?_)
    simp[idxF_at hc1 hc2 hno]
   ·have hc2:p l[k]=false:=by simpa using hc2
    refine Runs.skip ?_
    refine Runs.inBlock ?_
    refine Runs.evalE Ty_ok (by decide) fun k' hk'=>?_
    simp [h8, wrap_succ (show k < 4611686018427387904 by omega)]   -- R6
    apply hk'
    refine IH hc1 _ _ _ ⟨by simp[h0,intC],by simp[h1],by simp[h7],by simp,rfl,rfl,fun i h hi=>?_⟩
    rcases Nat.lt_or_ge i k with hik | hik
    ·exact hno i h hik
    ·have:i=k:=by omega
     subst this
     exact hc2
  ·have hc1:¬ k<l.length:=by simpa using hc1
   have hke:k=l.length:=by omega
   subst hke
   refine Runs.exit rfl ?_
   refine Runs.seqE Ty_ok (by decide) fun k' hk'=>?_
   simp   -- R7
   apply hk'
   refine Runs.ret Tryd.func57 (RetOk.one Tryd.results57) (hQ _ _ _ _ (.bnd (.v _)) (Frame.refl _ _) ?_)
   simp[idxF_no fun i h=>hno i h h]
theorem containsFuncI_ok {H:Heap} {n:Nat} {cl:AVal} (t:Bool) (l:List (Int)) (p:Int→Bool) (hl:l.length≤1048576) (hcl:∀ x ∈ l,ClosC Tryd.prog H n cl [int x] (fun r=>r=bool (p x))) :
  StillC Tryd.prog 31 [.list t (l.map intC),cl] H n (fun r=>r=bool (l.any p)):=by
 refine StillC.of Tryd.func31 rfl Tryd.ntmps31 (by simp) fun Q _ hQ=>?_
 refine Runs.seqE Ty_ok (by decide) fun k' hk'=>?_
 simp   -- R0
 apply hk'
 refine Runs.seqE Ty_ok (by decide) fun k' hk'=>?_
 simp   -- R1
 refine RunK.callT Ty_ok (indexFuncI_ok t l p hl hcl) e57 (by decide) (by decide) rfl (by simp) ?_
 rintro _ rfl
 simp
 apply hk'
 refine Runs.ret Tryd.func31 (RetOk.one Tryd.results31) (hQ _ _ _ _ (.bnd (.v _)) (Frame.refl _ _) ?_)
 simp[idxF_any]
theorem e58:Ent Tryd.prog 58:=Ent.of Tryd.func58 (by kernel_rfl) rfl
theorem e35:Ent Tryd.prog 35:=Ent.of Tryd.func35 (by kernel_rfl) rfl
theorem indexFuncW_ok {H:Heap} {n:Nat} {cl:AVal} (t:Bool) (l:List (Wire)) (p:Wire→Bool) (hl:l.length≤1048576) (hcl:∀ x ∈ l,ClosC Tryd.prog H n cl [.agg x.cells] (fun r=>r=bool (p x))) :
  StillC Tryd.prog 58 [.list t (l.map Wire.cells),cl] H n (fun r=>r=int (idxF l p)):=by
 refine StillC.of Tryd.func58 rfl Tryd.ntmps58 (by simp) fun Q _ hQ=>?_
 refine Runs.seqE Ty_ok (by decide) fun k' hk'=>?_
 simp   -- R0
 apply hk'
 refine Runs.seq ?_
 refine Runs.seqE Ty_ok (by decide) fun k' hk'=>?_
 simp   -- R1
 apply hk'
 refine Runs.block (Runs.loopUp l.length (fun k ρ H' n'=>ρ 0 = .list t (l.map Wire.cells)∧ρ 1=cl∧ρ 7=int l.length∧ρ 8=int k∧H'=H∧n'=n∧∀ i (h:i<l.length),i<k→p l[i]=false) ?_ ?_)
 ·simp
 ·rintro k ρ H' n' hk ⟨h0,h1,h7,h8,rfl,rfl,hno⟩ IH
  refine Runs.seqE Ty_ok (by decide) fun k' hk'=>?_
  simp [h7, h8]   -- R2
  apply hk'
  refine Runs.seq ?_
  refine Runs.ite rfl (fun hc1 => ?_) (fun hc1 => ?_)   -- t9
  ·have hc1:k<l.length:=by simpa using hc1
   refine Runs.skip ?_
   refine Runs.seq ?_
   refine Runs.block ?_
   refine Runs.seqE Ty_ok (by decide) fun k' hk'=>?_
   simp [h8]   -- R3
   apply hk'
   refine Runs.seqE Ty_ok (by decide) fun k' hk'=>?_
   simp [h0, h1, hc1, Wire.cells]   -- R4
   refine RunK.callF Ty_ok (hcl l[k] (List.getElem_mem hc1)) (by decide) (by decide) (by simp[h1]) (by simp[Wire.cells]) ?_
   rintro _ rfl
   simp
   apply hk'
   refine Runs.ite rfl (fun hc2 => ?_) (fun hc2 => ?_)   -- t16
   ·have hc2:p l[k]=true:=by simpa using hc2
    refine Runs.seqE Ty_ok (by decide) fun k' hk'=>?_
    simp   -- R5
    apply hk'
    refine Runs.ret Tryd.func58 (RetOk.one Tryd.results58) (hQ _ _ _ _ (.bnd (.v _)) (Frame.refl _ _) ?_)
    simp[idxF_at hc1 hc2 hno]
   ·have hc2:p l[k]=false:=by simpa using hc2
    refine Runs.skip ?_
    refine Runs.inBlock ?_
    refine Runs.evalE Ty_ok (by decide) fun k' hk'=>?_
    simp [h8, wrap_succ (show k < 4611686018427387904 by omega)]   -- R6
    apply hk'
    refine IH hc1 _ _ _ ⟨by simp[h0,Wire.cells],by simp[h1],by simp[h7],by simp,rfl,rfl,fun i h hi=>?_⟩
    rcases Nat.lt_or_ge i k with hik | hik
    ·exact hno i h hik
    ·have:i=k:=by omega
     subst this
     exact hc2
  ·have hc1:¬ k<l.length:=by simpa using hc1
   have hke:k=l.length:=by omega
   subst hke
   refine Runs.exit rfl ?_
   refine Runs.seqE Ty_ok (by decide) fun k' hk'=>?_
   simp   -- R7
   apply hk'
   refine Runs.ret Tryd.func58 (RetOk.one Tryd.results58) (hQ _ _ _ _ (.bnd (.v _)) (Frame.refl _ _) ?_)
   simp[idxF_no fun i h=>hno i h h]
theorem containsFuncW_ok {H:Heap} {n:Nat} {cl:AVal} (t:Bool) (l:List (Wire)) (p:Wire→Bool) (hl:l.length≤1048576) (hcl:∀ x ∈ l,ClosC Tryd.prog H n cl [.agg x.cells] (fun r=>r=bool (p x))) :
  StillC Tryd.prog 35 [.list t (l.map Wire.cells),cl] H n (fun r=>r=bool (l.any p)):=by
 refine StillC.of Tryd.func35 rfl Tryd.ntmps35 (by simp) fun Q _ hQ=>?_
 refine Runs.seqE Ty_ok (by decide) fun k' hk'=>?_
 simp   -- R0
 apply hk'
 refine Runs.seqE Ty_ok (by decide) fun k' hk'=>?_
 simp   -- R1
 refine RunK.callT Ty_ok (indexFuncW_ok t l p hl hcl) e58 (by decide) (by decide) rfl (by simp) ?_
 rintro _ rfl
 simp
 apply hk'
 refine Runs.ret Tryd.func35 (RetOk.one Tryd.results35) (hQ _ _ _ _ (.bnd (.v _)) (Frame.refl _ _) ?_)
 simp[idxF_any]
theorem e61:Ent Tryd.prog 61:=Ent.of Tryd.func61 (by kernel_rfl) rfl
theorem e55:Ent Tryd.prog 55:=Ent.of Tryd.func55 (by kernel_rfl) rfl
theorem indexFuncC_ok {H:Heap} {n:Nat} {cl:AVal} (t:Bool) (l:List (Control)) (p:Control→Bool) (hl:l.length≤1048576) (hcl:∀ x ∈ l,ClosC Tryd.prog H n cl [.agg x.cells] (fun r=>r=bool (p x))) :
  StillC Tryd.prog 61 [.list t (l.map Control.cells),cl] H n (fun r=>r=int (idxF l p)):=by
 refine StillC.of Tryd.func61 rfl Tryd.ntmps61 (by simp) fun Q _ hQ=>?_
 refine Runs.seqE Ty_ok (by decide) fun k' hk'=>?_
 simp   -- R0
 apply hk'
 refine Runs.seq ?_
 refine Runs.seqE Ty_ok (by decide) fun k' hk'=>?_
 simp   -- R1
 apply hk'
 refine Runs.block (Runs.loopUp l.length (fun k ρ H' n'=>ρ 0 = .list t (l.map Control.cells)∧ρ 1=cl∧ρ 7=int l.length∧ρ 8=int k∧H'=H∧n'=n∧∀ i (h:i<l.length),i<k→p l[i]=false) ?_ ?_)
 ·simp
 ·rintro k ρ H' n' hk ⟨h0,h1,h7,h8,rfl,rfl,hno⟩ IH
  refine Runs.seqE Ty_ok (by decide) fun k' hk'=>?_
  simp [h7, h8]   -- R2
  apply hk'
  refine Runs.seq ?_
  refine Runs.ite rfl (fun hc1 => ?_) (fun hc1 => ?_)   -- t9
  ·have hc1:k<l.length:=by simpa using hc1
   refine Runs.skip ?_
   refine Runs.seq ?_
   refine Runs.block ?_
   refine Runs.seqE Ty_ok (by decide) fun k' hk'=>?_
   simp [h8]   -- R3
   apply hk'
   refine Runs.seqE Ty_ok (by decide) fun k' hk'=>?_
   simp [h0, h1, hc1, Control.cells]   -- R4
   refine RunK.callF Ty_ok (hcl l[k] (List.getElem_mem hc1)) (by decide) (by decide) (by simp[h1]) (by simp[Control.cells]) ?_
   rintro _ rfl
   simp
   apply hk'
   refine Runs.ite rfl (fun hc2 => ?_) (fun hc2 => ?_)   -- t16
   ·have hc2:p l[k]=true:=by simpa using hc2
    refine Runs.seqE Ty_ok (by decide) fun k' hk'=>?_
    simp   -- R5
    apply hk'
    refine Runs.ret Tryd.func61 (RetOk.one Tryd.results61) (hQ _ _ _ _ (.bnd (.v _)) (Frame.refl _ _) ?_)
    simp[idxF_at hc1 hc2 hno]
   ·have hc2:p l[k]=false:=by simpa using hc2
    refine Runs.skip ?_
    refine Runs.inBlock ?_
    refine Runs.evalE Ty_ok (by decide) fun k' hk'=>?_
    simp [h8, wrap_succ (show k < 4611686018427387904 by omega)]   -- R6
    apply hk'
    refine IH hc1 _ _ _ ⟨by simp[h0,Control.cells],by simp[h1],by simp[h7],by simp,rfl,rfl,fun i h hi=>?_⟩
    rcases Nat.lt_or_ge i k with hik | hik
    ·exact hno i h hik
    ·have:i=k:=by omega
     subst this
     exact hc2
  ·have hc1:¬ k<l.length:=by simpa using hc1
   have hke:k=l.length:=by omega
   subst hke
   refine Runs.exit rfl ?_
   refine Runs.seqE Ty_ok (by decide) fun k' hk'=>?_
   simp   -- R7
   apply hk'
   refine Runs.ret Tryd.func61 (RetOk.one Tryd.results61) (hQ _ _ _ _ (.bnd (.v _)) (Frame.refl _ _) ?_)
   simp[idxF_no fun i h=>hno i h h]
theorem containsFuncC_ok {H:Heap} {n:Nat} {cl:AVal} (t:Bool) (l:List (Control)) (p:Control→Bool) (hl:l.length≤1048576) (hcl:∀ x ∈ l,ClosC Tryd.prog H n cl [.agg x.cells] (fun r=>r=bool (p x))) :
  StillC Tryd.prog 55 [.list t (l.map Control.cells),cl] H n (fun r=>r=bool (l.any p)):=by
 refine StillC.of Tryd.func55 rfl Tryd.ntmps55 (by simp) fun Q _ hQ=>?_
 refine Runs.seqE Ty_ok (by decide) fun k' hk'=>?_
 simp   -- R0
 apply hk'
 refine Runs.seqE Ty_ok (by decide) fun k' hk'=>?_
 simp   -- R1
 refine RunK.callT Ty_ok (indexFuncC_ok t l p hl hcl) e61 (by decide) (by decide) rfl (by simp) ?_
 rintro _ rfl
 simp
 apply hk'
 refine Runs.ret Tryd.func55 (RetOk.one Tryd.results55) (hQ _ _ _ _ (.bnd (.v _)) (Frame.refl _ _) ?_)
 simp[idxF_any]
end Go.Ab
/- Contracts of impl.IsSignature and spec.l2Sig. -/
namespace Go.Ab
open Go.Proofs
set_option linter.unusedSimpArgs false
theorem e26:Ent Tryd.prog 26:=Ent.of Tryd.func26 (by kernel_rfl) rfl
theorem e47:Ent Tryd.prog 47:=Ent.of Tryd.func47 (by kernel_rfl) rfl
theorem e56:Ent Tryd.prog 56:=Ent.of Tryd.func56 (by kernel_rfl) rfl
theorem clos135 {H:Heap} {n:Nat} {X:Id} (c:Control) (hX:H X=some ⟨3,[c.cells]⟩) (d:Control):ClosC Tryd.prog H n (.fn (.func 56) [] [.ptr X 1 0 0]) [.agg d.cells] (fun r=>r=bool (d.name == c.name)):=by
 refine⟨56,[],[.ptr X 1 0 0],rfl,e56,?_⟩
 refine StillC.of Tryd.func56 rfl Tryd.ntmps56 (by simp) fun Q hB hQ=>?_
 have hXn:=(hB X _ hX).1
 have hX2:¬ X=(n,2):=by rintro rfl;simp at hXn
 refine Runs.seqE Ty_ok (by decide) fun k' hk'=>?_
 simp [Control.cells]   -- R0
 apply hk'
 refine Runs.seqE Ty_ok (by decide) fun k' hk'=>?_
 simp [hX2, hX, Control.cells]   -- R1
 apply hk'
 exact Runs.ret Tryd.func56 (RetOk.one Tryd.results56) (hQ _ _ _ _ (.bnd (.v _)) (Frame.set (by simp) (Frame.refl _ _)) (by simp))
def okCtl (sig:Sig) (i:Nat):Bool:=okControl (sig.getD i default) && newName sig i
theorem goodSig_eq (sig:Sig):goodSig sig=(within sig.length 1 6 && (List.range sig.length).all (okCtl sig)):=rfl
theorem IsSignature_ok (sig:Sig) (hl:sig.length≤1048576) (hs:∀ c ∈ sig,c.name.length≤1048576):PureC Tryd.prog 26 [encSig false sig] (fun r=>r=bool (goodSig sig)):=by
 refine PureC.of Tryd.func26 rfl Tryd.ntmps26 (by simp) fun Q hQ=>?_
 refine Runs.seqE Ty_ok (by decide) fun k' hk'=>?_
 simp [encSig]   -- R0
 apply hk'
 refine Runs.seq ?_
 refine Runs.seqE Ty_ok (by decide) fun k' hk'=>?_
 simp   -- R1
 refine RunK.callA Ty_ok (within_ok sig.length 1 6) e27 (.cons (.v _ _ _) (.cons (.v _ _ _) (.cons (.v _ _ _) .nil))) (by decide) (by decide) rfl (by simp) ?_
 rintro _ rfl
 simp
 apply hk'
 refine Runs.ite rfl (fun hc1 => ?_) (fun hc1 => ?_)   -- t8
 ·have hw:within sig.length 1 6=false:=by simpa using hc1
  refine Runs.seqE Ty_ok (by decide) fun k' hk'=>?_
  simp   -- R2
  apply hk'
  exact Runs.ret Tryd.func26 (RetOk.one Tryd.results26) (hQ _ _ _ _ (.v _ _ _) (by rw[goodSig_eq,hw,Bool.false_and]))
 ·have hw:within sig.length 1 6=true:=by simpa using hc1
  refine Runs.skip ?_
  refine Runs.seq ?_
  refine Runs.seqE Ty_ok (by decide) fun k' hk'=>?_
  simp   -- R3
  apply hk'
  refine Runs.block (Runs.loopUp sig.length (fun k ρ H n=>ρ 0 = .list false (sig.map Control.cells)∧ρ 9 = .list false (sig.map Control.cells)∧ρ 10=int sig.length∧ρ 11=int k∧∀ i,i<k→okCtl sig i=true) ?_ ?_)
  ·simp
  ·rintro k ρ H n hk ⟨h0,h9,h10,h11,hall⟩ IH
   refine Runs.seqE Ty_ok (by decide) fun k' hk'=>?_
   simp [h10, h11]   -- R4
   apply hk'
   refine Runs.seq ?_
   refine Runs.ite rfl (fun hc1 => ?_) (fun hc1 => ?_)   -- t12
   ·have hc1:k<sig.length:=by simpa using hc1
    have hgk:sig.getD k default=sig[k]:=by simp[hc1]
    refine Runs.skip ?_
    refine Runs.seq ?_
    refine Runs.block ?_
    refine Runs.seqE Ty_ok (by decide) fun k' hk'=>?_
    simp [h9, h11, hc1, Control.cells]   -- R5
    apply hk'
    refine Runs.cut (fun ρ H n=>ρ 0 = .list false (sig.map Control.cells)∧ρ 9 = .list false (sig.map Control.cells)∧ρ 10=int sig.length∧ρ 11=int k∧ρ 3=int k∧∃ m,ρ 4 = .ptr (m,4) 1 0 0∧H (m,4)=some ⟨3,[sig[k].cells]⟩) ?_ ?_
    ·exact⟨by simp[h0],by simp[h9],by simp[h10],by simp[h11],by simp,n,by simp,by simp[Control.cells]⟩
    clear hk' h0 h9 h10 h11
    rintro ρ H n ⟨h0,h9,h10,h11,h3,m,h4,hm⟩
    refine Runs.seqE Ty_ok (by decide) fun k' hk'=>?_
    have fin:∀ ρ:Env,ρ 0 = .list false (sig.map Control.cells)→ρ 9 = .list false (sig.map Control.cells)→ρ 10=int sig.length→ρ 11=int k→ρ 38=bool (!okCtl sig k)→Runs Tryd.prog 26 40 k' ρ H n Q:=by
     intro ρ h0 h9 h10 h11 h38
     apply hk'
     refine Runs.ite h38 (fun hc2 => ?_) (fun hc2 => ?_)   -- t38
     ·have hb:okCtl sig k=false:=by simpa using hc2
      refine Runs.seqE Ty_ok (by decide) fun k' hk'=>?_
      simp   -- R7
      apply hk'
      exact Runs.ret Tryd.func26 (RetOk.one Tryd.results26) (hQ _ _ _ _ (.v _ _ _) (by rw[goodSig_eq,all_range_bad hc1 hb,Bool.and_false]))
     ·have hb:okCtl sig k=true:=by simpa using hc2
      refine Runs.skip ?_
      refine Runs.inBlock ?_
      refine Runs.evalE Ty_ok (by decide) fun k' hk'=>?_
      simp [h11, wrap_succ (show k < 4611686018427387904 by omega)]   -- R8
      apply hk'
      refine IH hc1 _ _ _ ⟨by simp[h0],by simp[h9],by simp[h10],by simp,fun i hi=>?_⟩
      rcases Nat.lt_or_ge i k with h | h
      ·exact hall i h
      ·rw[show i=k by omega];exact hb
    have hm':=hm
    simp only[Control.cells] at hm'
    simp [h4, hm']   -- R6
    refine RunK.callA Ty_ok (isName_ok sig[k].name (Nat.le_trans (hs _ (List.getElem_mem hc1)) (by decide))) e54 (.cons (.v _ _ _) .nil) (by decide) (by decide) rfl (by simp) ?_
    rintro _ rfl
    cases hnm:isNm sig[k].name
    ·simp[guardOf]
     exact fin _ (by simp[h0]) (by simp[h9]) (by simp[h10]) (by simp[h11]) (by simp only[okCtl,hgk,okControl,hnm];simp)
    ·simp[h4,hm',guardOf]
     refine RunK.callA Ty_ok (within_ok sig[k].ports 0 3) e27 (.cons (.v _ _ _) (.cons (.v _ _ _) (.cons (.v _ _ _) .nil))) (by decide) (by decide) rfl (by simp) ?_
     rintro _ rfl
     cases hpo:within sig[k].ports 0 3
     ·simp[guardOf]
      exact fin _ (by simp[h0]) (by simp[h9]) (by simp[h10]) (by simp[h11]) (by simp only[okCtl,hgk,okControl,hnm,hpo];simp)
     ·simp[h4,hm',guardOf]
      refine RunK.callA Ty_ok (within_ok sig[k].kind 0 2) e27 (.cons (.v _ _ _) (.cons (.v _ _ _) (.cons (.v _ _ _) .nil))) (by decide) (by decide) rfl (by simp) ?_
      rintro _ rfl
      cases hki:within sig[k].kind 0 2
      ·simp[guardOf]
       exact fin _ (by simp[h0]) (by simp[h9]) (by simp[h10]) (by simp[h11]) (by simp only[okCtl,hgk,okControl,hnm,hpo,hki];simp)
      ·have hkl:(k:Int)≤sig.length:=by omega
       simp[h0,h3,h4,hkl,guardOf,Control.cells]
       refine RunK.callT Ty_ok (containsFuncC_ok false (sig.take k) (fun d=>d.name == sig[k].name) (by simp;omega) (fun d _=>clos135 sig[k] hm d)) e55 (by decide) (by decide) rfl (by simp[Control.cells]) ?_
       rintro _ rfl
       simp[guardOf]
       refine fin _ (by simp[h0,Control.cells]) (by simp[h9,Control.cells]) (by simp[h10]) (by simp[h11]) ?_
       simp only[okCtl,hgk,okControl,hnm,hpo,hki,newName]
       simp
   ·have hc1:¬ k<sig.length:=by simpa using hc1
    have hke:k=sig.length:=by omega
    subst hke
    refine Runs.exit rfl ?_
    refine Runs.seqE Ty_ok (by decide) fun k' hk'=>?_
    simp   -- R9
    apply hk'
    exact Runs.ret Tryd.func26 (RetOk.one Tryd.results26) (hQ _ _ _ _ (.v _ _ _) (by rw[goodSig_eq,hw,all_range_end hall];rfl))
end Go.Ab
/- Contract of spec.l2Sig. -/
namespace Go.Ab
open Go.Proofs
set_option linter.unusedSimpArgs false
theorem newName_at {sig:Sig} {i j:Nat} (hi:i<sig.length) (hj:j<i) (h:sig[j].name=sig[i].name):newName sig i=false:=by
 have hg:sig.getD i default=sig[i]:=by simp[hi]
 have:(sig.take i).any (fun d=>d.name == sig[i].name)=true:=by
  rw[List.any_eq_true]
  refine⟨sig[j],?_,by simpa using h⟩
  rw[List.mem_take_iff_getElem]
  exact⟨j,by omega,rfl⟩
 rw[newName,hg,this]
 rfl
theorem newName_end {sig:Sig} {i:Nat} (hi:i<sig.length) (h:∀ j (hj:j<sig.length),j<i→¬ sig[j].name=sig[i].name):newName sig i=true:=by
 have hg:sig.getD i default=sig[i]:=by simp[hi]
 have:(sig.take i).any (fun d=>d.name == sig[i].name)=false:=by
  rw[List.any_eq_false]
  intro d hd
  rw[List.mem_take_iff_getElem] at hd
  obtain⟨j,hj,rfl⟩:=hd
  have:=h j (by omega) (by omega)
  simpa using this
 rw[newName,hg,this]
 rfl
theorem l2Sig_ok (sig:Sig) (hl:sig.length≤1048576) (hs:∀ c ∈ sig,c.name.length≤1048576):PureC Tryd.prog 47 [encSig false sig] (fun r=>r=bool (goodSig sig)):=by
 refine PureC.of Tryd.func47 rfl Tryd.ntmps47 (by simp) fun Q hQ=>?_
 refine Runs.seqE Ty_ok (by decide) fun k' hk'=>?_
 simp [encSig]   -- R0
 apply hk'
 refine Runs.seq ?_
 refine Runs.seqE Ty_ok (by decide) fun k' hk'=>?_
 simp   -- R1
 apply hk'
 have bad:∀ k,k<sig.length→okCtl sig k=false→∀ H n,Q (bool false) H n:=fun k hk hb H n=>hQ _ _ _ _ (.v _ _ _) (by rw[goodSig_eq,all_range_bad hk hb,Bool.and_false])
 refine Runs.block (Runs.loopUp sig.length (fun k ρ H n=>ρ 0 = .list false (sig.map Control.cells)∧ρ 3=int k∧∀ i,i<k→okCtl sig i=true) ?_ ?_)
 ·simp
 ·rintro k ρ H n hk ⟨h0,h3,hall⟩ IH
  refine Runs.seq ?_
  refine Runs.seqE Ty_ok (by decide) fun k' hk'=>?_
  simp [h0, h3]   -- R2
  apply hk'
  refine Runs.ite rfl (fun hc1 => ?_) (fun hc1 => ?_)   -- t8
  ·have hc1:k<sig.length:=by simpa using hc1
   have hgk:sig.getD k default=sig[k]:=by simp[hc1]
   refine Runs.skip ?_
   refine Runs.seq ?_
   refine Runs.block ?_
   refine Runs.seq ?_
   refine Runs.seqE Ty_ok (by decide) fun k' hk'=>?_
   have fin:∀ ρ:Env,ρ 0 = .list false (sig.map Control.cells)→ρ 3=int k→ρ 35=bool (!okControl sig[k])→Runs Tryd.prog 47 55 k' ρ H n Q:=by
    intro ρ h0 h3 h35
    apply hk'
    refine Runs.ite h35 (fun hc2 => ?_) (fun hc2 => ?_)   -- t35
    ·have hb:okControl sig[k]=false:=by simpa using hc2
     refine Runs.seqE Ty_ok (by decide) fun k' hk'=>?_
     simp   -- R5
     apply hk'
     exact Runs.ret Tryd.func47 (RetOk.one Tryd.results47) (bad k hc1 (by rw[okCtl,hgk,hb,Bool.false_and]) _ _)
    ·have hb:okControl sig[k]=true:=by simpa using hc2
     refine Runs.skip ?_
     refine Runs.seqE Ty_ok (by decide) fun k' hk'=>?_
     simp   -- R6
     apply hk'
     refine Runs.block (Runs.loopUp k (fun j ρ H n=>ρ 0 = .list false (sig.map Control.cells)∧ρ 3=int k∧ρ 4=int j∧∀ q (hq:q<sig.length),q<j→¬ sig[q].name=sig[k].name) ?_ ?_)
     ·simp[h0,h3]
     ·rintro j ρ H n hj ⟨h0,h3,h4,hno⟩ IH2
      refine Runs.seq ?_
      refine Runs.seqE Ty_ok (by decide) fun k' hk'=>?_
      simp [h3, h4]   -- R7
      apply hk'
      refine Runs.ite rfl (fun hc3 => ?_) (fun hc3 => ?_)   -- t38
      ·have hc3:j<k:=by simpa using hc3
       have hjl:j<sig.length:=by omega
       refine Runs.skip ?_
       refine Runs.seq ?_
       refine Runs.block ?_
       refine Runs.seqD Ty_ok kindOp_ok draws (by decide) (by kernel_rfl) fun k' hk'=>?_
       simp [h0, h3, h4, hc1, hjl, Control.cells]   -- R9
       apply hk'
       refine Runs.ite rfl (fun hc4 => ?_) (fun hc4 => ?_)   -- t51
       ·have hc4:sig[j].name=sig[k].name:=by simpa using hc4
        refine Runs.seqE Ty_ok (by decide) fun k' hk'=>?_
        simp   -- R10
        apply hk'
        exact Runs.ret Tryd.func47 (RetOk.one Tryd.results47) (bad k hc1 (by rw[okCtl,newName_at hc1 hc3 hc4,Bool.and_false]) _ _)
       ·have hc4:¬ sig[j].name=sig[k].name:=by simpa using hc4
        refine Runs.skip ?_
        refine Runs.inBlock ?_
        refine Runs.evalE Ty_ok (by decide) fun k' hk'=>?_
        simp [h4, wrap_succ (show j < 4611686018427387904 by omega)]   -- R8
        apply hk'
        refine IH2 hc3 _ _ _ ⟨by simp[h0,Control.cells],by simp[h3],by simp,fun q hq hqj=>?_⟩
        rcases Nat.lt_or_ge q j with h | h
        ·exact hno q hq h
        ·have:q=j:=by omega
         subst this
         exact hc4
      ·have hc3:¬ j<k:=by simpa using hc3
       have hje:j=k:=by omega
       subst hje
       refine Runs.exit rfl ?_
       refine Runs.inBlock ?_
       refine Runs.evalE Ty_ok (by decide) fun k' hk'=>?_
       simp [h3, wrap_succ (show j < 4611686018427387904 by omega)]   -- R3
       apply hk'
       refine IH hc1 _ _ _ ⟨by simp[h0],by simp,fun i hi=>?_⟩
       rcases Nat.lt_or_ge i j with h | h
       ·exact hall i h
       ·rw[show i=j by omega,okCtl,hgk,hb,newName_end hc1 hno]
        rfl
   simp [h0, h3, hc1, Control.cells]   -- R4
   refine RunK.callA Ty_ok (l2Name_ok sig[k].name (Nat.le_trans (hs _ (List.getElem_mem hc1)) (by decide))) e59 (.cons (.v _ _ _) .nil) (by decide) (by decide) rfl (by simp) ?_
   rintro _ rfl
   cases hnm:isNm sig[k].name
   ·simp[guardOf]
    exact fin _ (by simp[h0,Control.cells]) (by simp[h3]) (by simp only[okControl,hnm];simp)
   ·simp[h0,h3,hc1,Control.cells,guardOf]
    refine RunK.callA Ty_ok (l1In_ok sig[k].ports 0 3) e48 (.cons (.v _ _ _) (.cons (.v _ _ _) (.cons (.v _ _ _) .nil))) (by decide) (by decide) rfl (by simp) ?_
    rintro _ rfl
    cases hpo:within sig[k].ports 0 3
    ·simp[guardOf]
     exact fin _ (by simp[h0,Control.cells]) (by simp[h3]) (by simp only[okControl,hnm,hpo];simp)
    ·simp[h0,h3,hc1,Control.cells,guardOf]
     refine RunK.callA Ty_ok (l1In_ok sig[k].kind 0 2) e48 (.cons (.v _ _ _) (.cons (.v _ _ _) (.cons (.v _ _ _) .nil))) (by decide) (by decide) rfl (by simp) ?_
     rintro _ rfl
     simp[guardOf]
     exact fin _ (by simp[h0,Control.cells]) (by simp[h3]) (by simp only[okControl,hnm,hpo];simp)
  ·have hc1:¬ k<sig.length:=by simpa using hc1
   have hke:k=sig.length:=by omega
   subst hke
   refine Runs.exit rfl ?_
   refine Runs.seqE Ty_ok (by decide) fun k' hk'=>?_
   simp [h0]   -- R11
   refine RunK.callA Ty_ok (l1In_ok sig.length 1 6) e48 (.cons (.v _ _ _) (.cons (.v _ _ _) (.cons (.v _ _ _) .nil))) (by decide) (by decide) rfl (by simp) ?_
   rintro _ rfl
   simp
   apply hk'
   exact Runs.ret Tryd.func47 (RetOk.one Tryd.results47) (hQ _ _ _ _ (.v _ _ _) (by rw[goodSig_eq,all_range_end hall,Bool.and_true]))
end Go.Ab
/- Draws: signatures and bigraphs. -/
namespace Go.Ab.Vg
set_option linter.unusedSimpArgs false
set_option linter.unusedVariables false
theorem Adv.use {s c:Cur} {k m N:Int} (a:Adv k s c) (h:CurOk s N) (hk:k+m≤N):CurOk c m:=a.ok (h.le hk)
theorem pick_wp {s c:Cur} {k N:Int} (a:Adv k s c) (h:CurOk s N) (hk:k+2≤N) {n:Int} {Z:Cur × Int→Prop} (hz:∀ r:Cur × Int,Adv (k+2) s r.1→0≤r.2→(r.2<n∨r.2=0)→Z r):pickZ_pre c n∧∀ r:Cur × Int,r=pickZ c n→Z r:=by
 have h2:CurOk c 2:=a.use h hk
 refine⟨h2,?_⟩
 rintro _ rfl
 exact hz _ (a.trans (pickZ_adv c n)) (pickZ_le h2 n).1 (pickZ_le h2 n).2
theorem one_wp {s c:Cur} {k N:Int} (a:Adv k s c) (h:CurOk s N) (hk:k+2≤N) {n:Int} {Z:Cur × Bool→Prop} (hz:∀ r:Cur × Bool,Adv (k+2) s r.1→Z r):oneZ_pre c n∧∀ r:Cur × Bool,r=oneZ c n→Z r:=by
 refine⟨a.use h hk,?_⟩
 rintro _ rfl
 exact hz _ (a.trans (pickZ_adv c n))
theorem of_wp {s c:Cur} {k N:Int} (a:Adv k s c) (h:CurOk s N) (hk:k+2≤N) {l:List Str} (hl:l ≠ []) {Z:Cur × Str→Prop} (hz:∀ r:Cur × Str,Adv (k+2) s r.1→r.2 ∈ l→Z r):ofZ_pre c l∧∀ r:Cur × Str,r=ofZ c l→Z r:=by
 have h2:CurOk c 2:=a.use h hk
 refine⟨⟨h2,hl⟩,?_⟩
 rintro _ rfl
 have:=pickZ_le h2 l.length
 have:=List.length_pos_iff.2 hl
 exact hz _ (a.trans (pickZ_adv c l.length)) (mem_at (by omega))
theorem among_wp {s c:Cur} {k N:Int} (a:Adv k s c) (h:CurOk s N) (hk:k+2≤N) {l:List Int} (hl:l ≠ []) {Z:Cur × Int→Prop} (hz:∀ r:Cur × Int,Adv (k+2) s r.1→r.2 ∈ l→Z r):amongZ_pre c l∧∀ r:Cur × Int,r=amongZ c l→Z r:=by
 have h2:CurOk c 2:=a.use h hk
 refine⟨⟨h2,hl⟩,?_⟩
 rintro _ rfl
 have:=pickZ_le h2 l.length
 have:=List.length_pos_iff.2 hl
 exact hz _ (a.trans (pickZ_adv c l.length)) (mem_at (by omega))
def CtlD (c:Control):Prop:=c.name.length≤8∧(-1≤c.ports∧c.ports≤4) ∧ -1≤c.kind∧c.kind≤3
structure SigD (sig:Sig):Prop where
 len:sig.length≤8
 ctl:∀ c ∈ sig,CtlD c
abbrev sigR_pre (s:Cur):Prop:=CurOk s 16
abbrev sigR (s:Cur) (y:Cur × Sig):Prop:=Adv 16 s y.1∧SigD y.2
def sigR_wp (c:Cur) (Z:(Cur × (List Control))→Prop):Prop:=
 (pickZ_pre c 2)∧∀ r3:Cur × Int,r3=pickZ c 2→∀ l10:List Control,l10=[(Control.mk [114,111,111,109] 0 0),(Control.mk [107,101,121] 1 r3.2),(Control.mk [108,101,97,102] 1 2),(Control.mk [112,97,105,114] 2 0)]→(pickZ_pre r3.1 3)∧∀ r21:Cur × Int,r21=pickZ r3.1 3→(I64 (2+r21.2))∧∀ v29:Int,v29=2+r21.2→((0:Int)≤0∧(0:Int)≤v29∧v29≤l10.length)∧∀ l32:List Control,l32=(l10.take v29.toNat).drop 0→(pickZ_pre r21.1 40)∧∀ r44:Cur × Int,r44=pickZ r21.1 40→∀ c53:Bool,c53=decide (r44.2=0)→((c53=true→Z (r44.1,([]:List Control)))∧(c53=false→∀ c58:Bool,c58=decide (r44.2=1)→((c58=true→(ofZ_pre r44.1 [[107,101,121],[],[75,101,121],[114,111,111,109,115],[108,111,99,107]])∧∀ r61:Cur × Str,r61=ofZ r44.1 [[107,101,121],[],[75,101,121],[114,111,111,109,115],[108,111,99,107]]→(amongZ_pre r61.1 [0,3,4,(-1)])∧∀ r69:Cur × Int,r69=amongZ r61.1 [0,3,4,(-1)]→(amongZ_pre r69.1 [0,1,2,3,(-1)])∧∀ r77:Cur × Int,r77=amongZ r69.1 [0,1,2,3,(-1)]→(l32.length+1≤1073741824)∧∀ l85:List Control,l85=l32++[(Control.mk r61.2 r69.2 r77.2)]→Z (r77.1,l85))∧(c58=false→∀ c94:Bool,c94=decide (r44.2=2)→((c94=true→(l32.length+([(Control.mk [120] 0 0),(Control.mk [121] 0 0)]:List Control).length≤1073741824)∧∀ l97:List Control,l97=l32++([(Control.mk [120] 0 0),(Control.mk [121] 0 0)]:List Control)→(l97.length+1≤1073741824)∧∀ l105:List Control,l105=l97++[(Control.mk [122] 0 0)]→Z (r44.1,l105))∧(c94=false→Z (r44.1,l32)))))))
theorem sigR_vc (s:Cur) (h:sigR_pre s):sigR_wp s (sigR s):=by
 unfold sigR_wp
 refine pick_wp (Adv.refl s) h (by omega) fun r1 a1 l1 u1=>?_
 rintro l4 e4
 refine pick_wp a1 h (by omega) fun r2 a2 l2 u2=>⟨by simp only[I64];omega,?_⟩
 rintro v rfl
 have h4:l4.length=4:=by rw[e4];rfl
 refine⟨by omega,?_⟩
 rintro l3 e3
 have c3:l3.length≤4∧∀ c ∈ l3,CtlD c:=by
  rw[List.drop_zero] at e3
  subst e3
  refine⟨by rw[List.length_take];omega,fun c hc=>?_⟩
  have:=List.mem_of_mem_take hc
  subst e4
  simp only[List.mem_cons,List.not_mem_nil,or_false] at this
  rcases this with rfl | rfl | rfl | rfl<;>simp[CtlD]<;>omega
 refine pick_wp a2 h (by omega) fun r5 a5 l5 u5=>?_
 rintro c1 -
 refine⟨fun _=>⟨a5.le (by omega),by simp,by simp⟩,fun _=>?_⟩
 rintro c2 -
 refine⟨fun _=>?_,fun _=>?_⟩
 ·refine of_wp a5 h (by omega) (by simp) fun r6 a6 m6=>?_
  refine among_wp a6 h (by omega) (by simp) fun r7 a7 m7=>?_
  refine among_wp a7 h (by omega) (by simp) fun r8 a8 m8=>⟨by omega,?_⟩
  rintro l8 rfl
  refine⟨a8.le (by omega),by simp;omega,fun c hc=>?_⟩
  rcases List.mem_append.1 hc with hc | hc
  ·exact c3.2 c hc
  ·simp only[List.mem_singleton] at hc
   subst hc
   simp only[List.mem_cons,List.not_mem_nil,or_false] at m6 m7 m8
   refine⟨?_,?_,?_⟩
   ·show r6.2.length≤8
    rcases m6 with q | q | q | q | q<;>rw[q]<;>decide
   ·show -1≤r7.2∧r7.2≤4
    omega
   ·show -1≤r8.2∧r8.2≤3
    omega
 ·rintro c3' -
  refine⟨fun _=>⟨by simp;omega,?_⟩,fun _=>⟨a5.le (by omega),by show l3.length≤8;omega,c3.2⟩⟩
  rintro l6 rfl
  refine⟨by simp;omega,?_⟩
  rintro l7 rfl
  refine⟨a5.le (by omega),by simp;omega,fun c hc=>?_⟩
  simp only[List.mem_append,List.mem_cons,List.not_mem_nil,or_false] at hc
  rcases hc with (hc | rfl | rfl) | rfl
  ·exact c3.2 c hc
  ·simp[CtlD]
  ·simp[CtlD]
  ·simp[CtlD]
structure BigD (k:Int) (b:Big):Prop where
 roots : -k≤b.roots∧b.roots≤k
 edges : -k≤b.edges∧b.edges≤k
 nodes:(b.nodes.length:Int)≤k
 links:∀ x ∈ b.nodes,(x.links.length:Int)≤k
 parents:∀ x ∈ b.nodes,I64 x.parent
 sites:(b.sites.length:Int)≤k
 sites64:∀ p ∈ b.sites,I64 p
 outer:(b.outer.length:Int)≤k
 names:∀ s ∈ b.outer,(s.length:Int)≤k
 inner:(b.inner.length:Int)≤k
 wnames:∀ w ∈ b.inner,(w.name.length:Int)≤k
theorem BigD.le {k m:Int} {b:Big} (h:BigD k b) (hk:k≤m):BigD m b:=
 ⟨by have:=h.roots;omega,by have:=h.edges;omega,by have:=h.nodes;omega,fun x hx=>by have:=h.links x hx;omega,h.parents,by have:=h.sites;omega,h.sites64,by have:=h.outer;omega,fun x hx=>by have:=h.names x hx;omega,by have:=h.inner;omega,fun x hx=>by have:=h.wnames x hx;omega⟩
abbrev harmedR_pre (s:Cur) (b:Big):Prop:=CurOk s 100∧BigD 30 b
abbrev harmedR (s:Cur) (_:Big) (y:Cur × Big):Prop:=Adv 100 s y.1∧BigD 31 y.2
def l1MostZ (a b:Int):Int:=if b<a then a else b
def l1MostZ_wp (a:Int) (b:Int) (Z:Int→Prop):Prop:=
 ∀ c2:Bool,c2=decide (b<a)→((c2=true→Z a)∧(c2=false→Z b))
theorem l1MostZ_vc (a b:Int):l1MostZ_wp a b (fun y=>y=l1MostZ a b):=by
 unfold l1MostZ_wp
 simp only[forall_eq,decide_eq_true_eq,decide_eq_false_iff_not]
 exact⟨fun h=>by rw[l1MostZ,if_pos h],fun h=>by rw[l1MostZ,if_neg h]⟩
def harmedR_wp (c:Cur) (b:Big) (Z:(Cur × Big)→Prop):Prop:=
 ∀ len21:Int,len21=(b.nodes.length:Int)→∀ r23:Int,r23=l1MostZ len21 1→(pickZ_pre c r23)∧∀ r25:Cur × Int,r25=pickZ c r23→(pickZ_pre r25.1 60)∧∀ r38:Cur × Int,r38=pickZ r25.1 60→∀ c50:Bool,c50=decide (r38.2=0)→((c50=true→(amongZ_pre r38.1 [(-1),0,4,5])∧∀ r53:Cur × Int,r53=amongZ r38.1 [(-1),0,4,5]→Z (r53.1,(Big.mk r53.2 b.nodes b.sites b.edges b.outer b.inner)))∧(c50=false→∀ c83:Bool,c83=decide (r38.2=1)→((c83=true→(amongZ_pre r38.1 [(-1),0,8,9])∧∀ r86:Cur × Int,r86=amongZ r38.1 [(-1),0,8,9]→Z (r86.1,(Big.mk b.roots b.nodes b.sites r86.2 b.outer b.inner)))∧(c83=false→∀ c116:Bool,c116=decide (r38.2=2)→((c116=true→(ofZ_pre r38.1 [[97],[122],[],[97,98,99,100,101],[66]])∧∀ r124:Cur × Str,r124=ofZ r38.1 [[97],[122],[],[97,98,99,100,101],[66]]→∀ l125:List Str,l125=[r124.2]→(b.outer.length+l125.length≤1073741824)∧∀ l145:List Str,l145=b.outer++l125→Z (r124.1,(Big.mk b.roots b.nodes b.sites b.edges l145 b.inner)))∧(c116=false→∀ c176:Bool,c176=decide (r38.2=3)→((c176=true→(amongZ_pre r38.1 [(-1),(-4),7,8,0])∧∀ r184:Cur × Int,r184=amongZ r38.1 [(-1),(-4),7,8,0]→∀ l185:List Int,l185=[r184.2]→(b.sites.length+l185.length≤1073741824)∧∀ l205:List Int,l205=b.sites++l185→Z (r184.1,(Big.mk b.roots b.nodes l205 b.edges b.outer b.inner)))∧(c176=false→∀ c236:Bool,c236=decide (r38.2=4)→((c236=true→(ofZ_pre r38.1 [[97],[122]])∧∀ r244:Cur × Str,r244=ofZ r38.1 [[97],[122]]→(amongZ_pre r244.1 [(-1),0,9])∧∀ r246:Cur × Int,r246=amongZ r244.1 [(-1),0,9]→∀ l247:List Wire,l247=[(Wire.mk r244.2 r246.2)]→(b.inner.length+l247.length≤1073741824)∧∀ l274:List Wire,l274=b.inner++l247→Z (r246.1,(Big.mk b.roots b.nodes b.sites b.edges b.outer l274)))∧(c236=false→∀ c305:Bool,c305=decide (r38.2=5)→((c305=true→∀ len307:Int,len307=(b.nodes.length:Int)→∀ c309:Bool,c309=decide (0<len307)→((c309=true→(I64 (r25.2+1))∧∀ v322:Int,v322=r25.2+1→(amongZ_pre r38.1 [(-5),r25.2,v322,(-1),4611686018427387904,(-9223372036854775808)])∧∀ r325:Cur × Int,r325=amongZ r38.1 [(-5),r25.2,v322,(-1),4611686018427387904,(-9223372036854775808)]→(0≤r25.2∧r25.2<b.nodes.length)∧∀ x339:GNode,x339=at' b.nodes r25.2→∀ l358:List GNode,l358=b.nodes.set r25.2.toNat (GNode.mk x339.control r325.2 x339.links)→Z (r325.1,(Big.mk b.roots l358 b.sites b.edges b.outer b.inner)))∧(c309=false→Z (r38.1,b))))∧(c305=false→∀ c403:Bool,c403=decide (r38.2=6)→((c403=true→∀ len405:Int,len405=(b.nodes.length:Int)→∀ c407:Bool,c407=decide (0<len405)→((c407=true→(amongZ_pre r38.1 [(-1),0,6])∧∀ r420:Cur × Int,r420=amongZ r38.1 [(-1),0,6]→(0≤r25.2∧r25.2<b.nodes.length)∧∀ x434:GNode,x434=at' b.nodes r25.2→∀ l453:List GNode,l453=b.nodes.set r25.2.toNat (GNode.mk r420.2 x434.parent x434.links)→Z (r420.1,(Big.mk b.roots l453 b.sites b.edges b.outer b.inner)))∧(c407=false→Z (r38.1,b))))∧(c403=false→∀ c498:Bool,c498=decide (r38.2=7)→((c498=true→∀ len505:Int,len505=(b.nodes.length:Int)→∀ c507:Bool,c507=decide (0<len505)→((c507=true→(0≤r25.2∧r25.2<b.nodes.length)∧∀ x515:GNode,x515=at' b.nodes r25.2→(x515.links.length+1≤1073741824)∧(0≤r25.2∧r25.2<b.nodes.length)∧∀ l551:List GNode,l551=b.nodes.set r25.2.toNat (GNode.mk x515.control x515.parent (x515.links++[0]))→Z (r38.1,(Big.mk b.roots l551 b.sites b.edges b.outer b.inner)))∧(c507=false→Z (r38.1,b))))∧(c498=false→∀ c595:Bool,c595=decide (r38.2=9)→((c595=true→loopW (σ:=Int × (List Int) × Int × Int × (List Str)) (fun (i627,w628,w629,w630,l631) K638=>(pickZ_pre (Cur.mk w628 w629 w630) 3)∧∀ r640:Cur × Int,r640=pickZ (Cur.mk w628 w629 w630) 3→(I64 (15+r640.2))∧∀ v648:Int,v648=15+r640.2→∀ c650:Bool,c650=decide (i627<v648)→((c650=true→(I64 (i627+1))∧∀ v658:Int,v658=i627+1→(0≤i627∧i627≤v658∧v658≤[97,98,99,100,101,102,103,104,105,106,107,108,109,110,111,112,113,114,115,116].length)∧∀ s661:Str,s661=([97,98,99,100,101,102,103,104,105,106,107,108,109,110,111,112,113,114,115,116].take v658.toNat).drop i627.toNat→([113].length+s661.length<4611686018427387904)∧∀ v664:Str,v664=[113]++s661→(l631.length+1≤1073741824)∧∀ l667:List Str,l667=l631++[v664]→(I64 (i627+1))∧∀ v681:Int,v681=i627+1→K638 (v681,r640.1.code,r640.1.pos,r640.1.seed,l667))∧(c650=false→Z (r640.1,(Big.mk b.roots b.nodes b.sites b.edges l631 b.inner))))) (0,r38.1.code,r38.1.pos,r38.1.seed,([]:List Str)))∧(c595=false→∀ c693:Bool,c693=decide (r38.2=8)→((c693=true→loopW (σ:=(List GNode)) (fun l714 K721=>joinW (fun (J722:Bool→Prop)=>∀ len769:Int,len769=(l714.length:Int)→∀ c771:Bool,c771=decide (0<len769)→((c771=true→∀ len773:Int,len773=(l714.length:Int)→∀ c776:Bool,c776=decide (len769<9)→J722 (c776))∧(c771=false→J722 (false)))) (fun b725=>((b725=true→((0:Int)≤0∧(0:Int)<l714.length)∧∀ x737:GNode,x737=at' l714 0→((0:Int)≤0∧(0:Int)<l714.length)∧∀ x741:GNode,x741=at' l714 0→(l714.length+1≤1073741824)∧∀ l746:List GNode,l746=l714++[(GNode.mk x737.control (-1) x737.links)]→K721 (l746))∧(b725=false→Z (r38.1,(Big.mk b.roots l714 b.sites b.edges b.outer b.inner)))))) (b.nodes))∧(c693=false→Z (r38.1,b)))))))))))))))))))))
theorem mem_set_of {α:Type} {l:List α} {i:Nat} {a x:α} (h:x ∈ l.set i a):x ∈ l∨x=a:=List.mem_or_eq_of_mem_set h
theorem BigD.node {k:Int} {b:Big} (h:BigD k b) {i:Nat} {x:GNode} (h1:(x.links.length:Int)≤k+1) (h2:I64 x.parent):BigD (k+1) { b with nodes:=b.nodes.set i x }:=by
 have h':=h.le (show k≤k+1 by omega)
 refine { h' with nodes:=by simpa using h'.nodes,links:=fun y hy=>?_,parents:=fun y hy=>?_ }
 ·rcases mem_set_of hy with q | rfl
  ·exact h'.links y q
  ·exact h1
 ·rcases mem_set_of hy with q | rfl
  ·exact h'.parents y q
  ·exact h2
theorem harmedR_vc (s:Cur) (b:Big) (h:harmedR_pre s b):harmedR_wp s b (harmedR s b):=by
 unfold harmedR_wp
 obtain⟨h,hb⟩:=h
 have hb':=hb.le (show (30:Int)≤31 by omega)
 have hn:=hb.nodes
 rintro _ rfl _ rfl
 refine pick_wp (Adv.refl s) h (by omega) fun r1 a1 l1 u1=>?_
 refine pick_wp a1 h (by omega) fun r2 a2 l2 u2=>?_
 have hlt:(0:Int)<b.nodes.length→r1.2<b.nodes.length:=fun h0=>by
  simp only[l1MostZ] at u1
  split at u1<;>omega
 have done:harmedR s b (r2.1,b):=⟨a2.le (by omega),hb'⟩
 rintro c -
 refine⟨fun _=>?_,fun _=>?_⟩
 ·refine among_wp a2 h (by omega) (by simp) fun r a m=>⟨a.le (by omega),{ hb' with roots:=?_ }⟩
  simp only[List.mem_cons,List.not_mem_nil,or_false] at m
  show -31≤r.2∧r.2≤31
  omega
 rintro c -
 refine⟨fun _=>?_,fun _=>?_⟩
 ·refine among_wp a2 h (by omega) (by simp) fun r a m=>⟨a.le (by omega),{ hb' with edges:=?_ }⟩
  simp only[List.mem_cons,List.not_mem_nil,or_false] at m
  show -31≤r.2∧r.2≤31
  omega
 rintro c -
 refine⟨fun _=>?_,fun _=>?_⟩
 ·refine of_wp a2 h (by omega) (by simp) fun r a m=>?_
  rintro l rfl
  have:=hb.outer
  refine⟨by simp;omega,?_⟩
  rintro l rfl
  refine⟨a.le (by omega),{ hb' with outer:=by simp;omega,names:=fun x hx=>?_ }⟩
  rcases List.mem_append.1 hx with hx | hx
  ·exact hb'.names x hx
  ·simp only[List.mem_singleton] at hx
   subst hx
   simp only[List.mem_cons,List.not_mem_nil,or_false] at m
   rcases m with q | q | q | q | q<;>rw[q]<;>decide
 rintro c -
 refine⟨fun _=>?_,fun _=>?_⟩
 ·refine among_wp a2 h (by omega) (by simp) fun r a m=>?_
  rintro l rfl
  have:=hb.sites
  refine⟨by simp;omega,?_⟩
  rintro l rfl
  refine⟨a.le (by omega),{ hb' with sites:=by simp;omega,sites64:=fun x hx=>?_ }⟩
  rcases List.mem_append.1 hx with hx | hx
  ·exact hb'.sites64 x hx
  ·simp only[List.mem_singleton] at hx
   subst hx
   simp only[List.mem_cons,List.not_mem_nil,or_false] at m
   simp only[I64]
   omega
 rintro c -
 refine⟨fun _=>?_,fun _=>?_⟩
 ·refine of_wp a2 h (by omega) (by simp) fun r a m=>?_
  refine among_wp a h (by omega) (by simp) fun r3 a3 _=>?_
  rintro l rfl
  have:=hb.inner
  refine⟨by simp;omega,?_⟩
  rintro l rfl
  refine⟨a3.le (by omega),{ hb' with inner:=by simp;omega,wnames:=fun x hx=>?_ }⟩
  rcases List.mem_append.1 hx with hx | hx
  ·exact hb'.wnames x hx
  ·simp only[List.mem_singleton] at hx
   subst hx
   simp only[List.mem_cons,List.not_mem_nil,or_false] at m
   show (r.2.length:Int)≤31
   rcases m with q | q<;>rw[q]<;>decide
 rintro c -
 refine⟨fun _=>?_,fun _=>?_⟩
 ·rintro _ rfl c ec
  refine⟨fun h0=>?_,fun _=>done⟩
  have h0':=hlt (by simpa[ec] using h0)
  refine⟨by simp only[I64];omega,?_⟩
  rintro v rfl
  refine among_wp a2 h (by omega) (by simp) fun r a m=>⟨⟨l1,h0'⟩,?_⟩
  rintro x rfl l rfl
  refine⟨a.le (by omega),hb.node (by have:=hb'.links _ (mem_at ⟨l1,h0'⟩);exact this) ?_⟩
  simp only[List.mem_cons,List.not_mem_nil,or_false] at m
  simp only[I64]
  omega
 rintro c -
 refine⟨fun _=>?_,fun _=>?_⟩
 ·rintro _ rfl c ec
  refine⟨fun h0=>?_,fun _=>done⟩
  have h0':=hlt (by simpa[ec] using h0)
  refine among_wp a2 h (by omega) (by simp) fun r a m=>⟨⟨l1,h0'⟩,?_⟩
  rintro x rfl l rfl
  exact⟨a.le (by omega),hb.node (by have:=hb'.links _ (mem_at ⟨l1,h0'⟩);exact this) (by have:=hb.parents _ (mem_at ⟨l1,h0'⟩);exact this)⟩
 rintro c -
 refine⟨fun _=>?_,fun _=>?_⟩
 ·rintro _ rfl c ec
  refine⟨fun h0=>?_,fun _=>done⟩
  have h0':=hlt (by simpa[ec] using h0)
  have hm:=mem_at ⟨l1,h0'⟩
  have hl:=hb.links _ hm
  refine⟨⟨l1,h0'⟩,?_⟩
  rintro x rfl
  refine⟨by omega,⟨l1,h0'⟩,?_⟩
  rintro l rfl
  exact⟨a2.le (by omega),hb.node (by simp only[List.length_append,List.length_cons,List.length_nil];omega) (by have:=hb.parents _ hm;exact this)⟩
 rintro c -
 refine⟨fun _=>?_,fun _=>?_⟩
 ·refine loopW.byM (fun t=>(0≤t.1∧t.1≤18)∧Adv (4+2 * t.1) s (Cur.mk t.2.1 t.2.2.1 t.2.2.2.1)∧(t.2.2.2.2.length:Int)=t.1∧∀ x ∈ t.2.2.2.2,(x.length:Int)≤31) (fun t=>(18 - t.1).toNat) ⟨by simp,a2,rfl,by simp⟩ ?_
  rintro⟨i,q1,q2,q3,l⟩ ⟨hi,ha,hl,hn⟩
  simp only at hi ha hl hn
  refine pick_wp ha h (by omega) fun r a p1 p2=>⟨by simp only[I64];omega,?_⟩
  rintro v rfl c ec
  refine⟨fun h0=>⟨by simp only[I64];omega,?_⟩,fun _=>⟨a.le (by omega),{ hb' with outer:=by show (l.length:Int)≤31;omega,names:=hn }⟩⟩
  have h0':i<15+r.2:=by simpa[ec] using h0
  rintro v rfl
  refine⟨by simp only[List.length_cons,List.length_nil];omega,?_⟩
  rintro t rfl
  refine⟨by simp only[List.length_cons,List.length_nil,List.length_drop,List.length_take];omega,?_⟩
  rintro v ev
  refine⟨by omega,?_⟩
  rintro l2 rfl
  refine⟨by simp only[I64];omega,?_⟩
  rintro v2 rfl
  refine⟨⟨by simp only;omega,?_,by simp;omega,fun x hx=>?_⟩,by simp only;omega⟩
  ·have:=a
   rw[show 4+2 * i+2=4+2 * (i+1) by omega] at this
   exact this
  ·rcases List.mem_append.1 hx with hx | hx
   ·exact hn x hx
   ·simp only[List.mem_singleton] at hx
    subst hx
    subst ev
    simp only[List.length_append,List.length_cons,List.length_nil,List.length_drop,List.length_take]
    omega
 rintro c -
 refine⟨fun _=>?_,fun _=>done⟩
 refine loopW.byM (fun l=>(l.length:Int)≤30∧∀ x ∈ l,(x.links.length:Int)≤30∧I64 x.parent) (fun l=>40 - l.length) ⟨hb.nodes,fun x hx=>⟨hb.links x hx,hb.parents x hx⟩⟩ ?_
 rintro l ⟨hl,hx⟩
 refine⟨fun c=>c=true→0<l.length∧l.length<9,?_,?_⟩
 ·rintro _ rfl c ec
  refine⟨fun h0=>?_,fun _=>by simp⟩
  rintro _ _ c2 rfl
  intro h1
  have h2:(0:Int)<l.length:=by simpa[ec] using h0
  simp only[decide_eq_true_eq] at h1
  omega
 ·rintro c hc
  refine⟨fun h0=>?_,fun _=>⟨a2.le (by omega),{ hb' with nodes:=by show (l.length:Int)≤31;omega,links:=fun x hm=>by have:=(hx x hm).1;omega,parents:=fun x hm=>(hx x hm).2 }⟩⟩
  have h1:=hc h0
  have hp:(0:Int)≤0∧(0:Int)<l.length:=by omega
  refine⟨hp,?_⟩
  rintro x rfl
  refine⟨hp,?_⟩
  rintro _ _
  refine⟨by omega,?_⟩
  rintro l2 rfl
  refine⟨⟨by simp;omega,fun y hy=>?_⟩,by simp;omega⟩
  rcases List.mem_append.1 hy with hy | hy
  ·exact hx y hy
  ·simp only[List.mem_singleton] at hy
   subst hy
   exact⟨(hx _ (mem_at hp)).1,by simp[I64]⟩
abbrev bigraphR_pre (s:Cur) (sig:Sig) (most:Int):Prop:=CurOk s 1000∧SigD sig∧0≤most∧most≤16
abbrev bigraphR (s:Cur) (sig:Sig) (most:Int) (y:Cur × Big):Prop:=Adv 1000 s y.1∧BigD 31 y.2
def bigraphR_wp (c:Cur) (sig:List Control) (most:Int) (Z:(Cur × Big)→Prop):Prop:=
 (amongZ_pre c [1,1,2,0,3])∧∀ r5:Cur × Int,r5=amongZ c [1,1,2,0,3]→(pickZ_pre r5.1 3)∧∀ r13:Cur × Int,r13=pickZ r5.1 3→∀ l22:List Str,l22=[[97],[98],[120],[121]]→loopW (σ:=Int × (List Int) × Int × Int × (List Str)) (fun (i45,w46,w47,w48,l49) K56=>∀ len57:Int,len57=(l22.length:Int)→∀ c59:Bool,c59=decide (i45<len57)→((c59=true→(oneZ_pre (Cur.mk w46 w47 w48) 3)∧∀ r62:Cur × Bool,r62=oneZ (Cur.mk w46 w47 w48) 3→((r62.2=true→(0≤i45∧i45<l22.length)∧∀ x75:Str,x75=at' l22 i45→(l49.length+1≤1073741824)∧∀ l78:List Str,l78=l49++[x75]→(I64 (i45+1))∧∀ v92:Int,v92=i45+1→K56 (v92,r62.1.code,r62.1.pos,r62.1.seed,l78))∧(r62.2=false→(I64 (i45+1))∧∀ v95:Int,v95=i45+1→K56 (v95,r62.1.code,r62.1.pos,r62.1.seed,l49))))∧(c59=false→∀ len97:Int,len97=(l49.length:Int)→(I64 (r13.2+len97))∧∀ v100:Int,v100=r13.2+len97→(I64 (most+1))∧∀ v103:Int,v103=most+1→(pickZ_pre (Cur.mk w46 w47 w48) v103)∧∀ r106:Cur × Int,r106=pickZ (Cur.mk w46 w47 w48) v103→joinW (fun (J118:Bool→Prop)=>∀ len924:Int,len924=(sig.length:Int)→∀ c926:Bool,c926=decide (len924=0)→((c926=true→J118 (true))∧(c926=false→∀ c928:Bool,c928=decide (r5.2=0)→J118 (c928)))) (fun b121=>joinW (fun (J145:Int→Prop)=>((b121=true→J145 (0))∧(b121=false→J145 (r106.2)))) (fun n139=>loopW (σ:=Int × (List Int) × Int × Int × (List GNode)) (fun (i163,w164,w165,w166,l167) K174=>∀ c175:Bool,c175=decide (i163<n139)→((c175=true→∀ len182:Int,len182=(sig.length:Int)→(pickZ_pre (Cur.mk w164 w165 w166) len182)∧∀ r185:Cur × Int,r185=pickZ (Cur.mk w164 w165 w166) len182→(pickZ_pre r185.1 r5.2)∧∀ r187:Cur × Int,r187=pickZ r185.1 r5.2→(I64 ((-1) - r187.2))∧∀ v189:Int,v189=(-1) - r187.2→(I64 (i163+1))∧∀ v287:Int,v287=i163+1→(pickZ_pre r187.1 v287)∧∀ r290:Cur × Int,r290=pickZ r187.1 v287→joinW (fun (J336:(Bool × (List Int) × Int × Int)→Prop)=>∀ c338:Bool,c338=decide (r290.2<i163)→((c338=true→(0≤r290.2∧r290.2<l167.length)∧∀ x341:GNode,x341=at' l167 r290.2→(0≤x341.control∧x341.control<sig.length)∧∀ x361:Control,x361=at' sig x341.control→∀ c363:Bool,c363=decide (x361.kind ≠ 2)→((c363=true→(oneZ_pre r290.1 2)∧∀ r366:Cur × Bool,r366=oneZ r290.1 2→J336 (r366.2,r366.1.code,r366.1.pos,r366.1.seed))∧(c363=false→J336 (false,r290.1.code,r290.1.pos,r290.1.seed))))∧(c338=false→J336 (false,r290.1.code,r290.1.pos,r290.1.seed)))) (fun (v327,w328,w329,w330)=>joinW (fun (J410:Int→Prop)=>((v327=true→J410 (r290.2))∧(v327=false→J410 (v189)))) (fun w404=>joinW (fun (J417:Bool→Prop)=>(0≤r185.2∧r185.2<sig.length)∧∀ x564:Control,x564=at' sig r185.2→∀ c566:Bool,c566=decide (0<x564.ports)→((c566=true→∀ c568:Bool,c568=decide (v100=0)→J417 (c568))∧(c566=false→J417 (false)))) (fun b420=>joinW (fun (J449:Int→Prop)=>((b420=true→J449 (0))∧(b420=false→J449 (r185.2)))) (fun w443=>loopW (σ:=Int × (List Int) × Int × Int × (List Int)) (fun (k481,w482,w483,w484,l485) K493=>(0≤w443∧w443<sig.length)∧∀ x495:Control,x495=at' sig w443→∀ c497:Bool,c497=decide (k481<x495.ports)→((c497=true→∀ r505:Int,r505=l1MostZ v100 1→(pickZ_pre (Cur.mk w482 w483 w484) r505)∧∀ r507:Cur × Int,r507=pickZ (Cur.mk w482 w483 w484) r505→∀ l508:List Int,l508=[r507.2]→(l485.length+l508.length≤1073741824)∧∀ l529:List Int,l529=l485++l508→(I64 (k481+1))∧∀ v544:Int,v544=k481+1→K493 (v544,r507.1.code,r507.1.pos,r507.1.seed,l529))∧(c497=false→(l167.length+1≤1073741824)∧∀ l547:List GNode,l547=l167++[(GNode.mk w443 w404 l485)]→(I64 (i163+1))∧∀ v561:Int,v561=i163+1→K174 (v561,w482,w483,w484,l547)))) (0,w328,w329,w330,([]:List Int)))))))∧(c175=false→loopW (σ:=Int × (List Int) × Int × Int × (List Wire) × (List Int)) (fun (i587,w588,w589,w590,l591,l592) K599=>∀ c600:Bool,c600=decide (i587<4)→((c600=true→joinW (fun (J636:(Bool × (List Int) × Int × Int)→Prop)=>∀ c638:Bool,c638=decide (0<r5.2)→((c638=true→(oneZ_pre (Cur.mk w588 w589 w590) 3)∧∀ r641:Cur × Bool,r641=oneZ (Cur.mk w588 w589 w590) 3→J636 (r641.2,r641.1.code,r641.1.pos,r641.1.seed))∧(c638=false→J636 (false,w588,w589,w590)))) (fun (v627,w628,w629,w630)=>joinW (fun (J686:((List Int) × Int × Int × (List Int))→Prop)=>((v627=true→(pickZ_pre (Cur.mk w628 w629 w630) r5.2)∧∀ r689:Cur × Int,r689=pickZ (Cur.mk w628 w629 w630) r5.2→(I64 ((-1) - r689.2))∧∀ v697:Int,v697=(-1) - r689.2→∀ len704:Int,len704=(l167.length:Int)→(I64 (len704+1))∧∀ v707:Int,v707=len704+1→(pickZ_pre r689.1 v707)∧∀ r710:Cur × Int,r710=pickZ r689.1 v707→joinW (fun (J722:Bool→Prop)=>∀ len760:Int,len760=(l167.length:Int)→∀ c762:Bool,c762=decide (r710.2<len760)→((c762=true→(0≤r710.2∧r710.2<l167.length)∧∀ x765:GNode,x765=at' l167 r710.2→(0≤x765.control∧x765.control<sig.length)∧∀ x785:Control,x785=at' sig x765.control→∀ c787:Bool,c787=decide (x785.kind ≠ 2)→J722 (c787))∧(c762=false→J722 (false)))) (fun b725=>((b725=true→(l592.length+1≤1073741824)∧∀ l733:List Int,l733=l592++[r710.2]→J686 (r710.1.code,r710.1.pos,r710.1.seed,l733))∧(b725=false→(l592.length+1≤1073741824)∧∀ l747:List Int,l747=l592++[v697]→J686 (r710.1.code,r710.1.pos,r710.1.seed,l747)))))∧(v627=false→J686 (w628,w629,w630,l592)))) (fun (w677,w678,w679,l680)=>joinW (fun (J823:(Bool × (List Int) × Int × Int)→Prop)=>∀ c825:Bool,c825=decide (0<v100)→((c825=true→(oneZ_pre (Cur.mk w677 w678 w679) 4)∧∀ r828:Cur × Bool,r828=oneZ (Cur.mk w677 w678 w679) 4→J823 (r828.2,r828.1.code,r828.1.pos,r828.1.seed))∧(c825=false→J823 (false,w677,w678,w679)))) (fun (v814,w815,w816,w817)=>((v814=true→(0≤i587∧i587<l22.length)∧∀ x851:Str,x851=at' l22 i587→(pickZ_pre (Cur.mk w815 w816 w817) v100)∧∀ r854:Cur × Int,r854=pickZ (Cur.mk w815 w816 w817) v100→∀ l855:List Wire,l855=[(Wire.mk x851 r854.2)]→(l591.length+l855.length≤1073741824)∧∀ l875:List Wire,l875=l591++l855→(I64 (i587+1))∧∀ v889:Int,v889=i587+1→K599 (v889,r854.1.code,r854.1.pos,r854.1.seed,l875,l680))∧(v814=false→(I64 (i587+1))∧∀ v892:Int,v892=i587+1→K599 (v892,w815,w816,w817,l591,l680)))))))∧(c600=false→(harmedR_pre (Cur.mk w588 w589 w590) (Big.mk r5.2 l167 l592 r13.2 l49 l591))∧∀ r900:Cur × Big,(harmedR (Cur.mk w588 w589 w590) (Big.mk r5.2 l167 l592 r13.2 l49 l591) r900)→Z (r900.1,r900.2)))) (0,w164,w165,w166,([]:List Wire),([]:List Int))))) (0,r106.1.code,r106.1.pos,r106.1.seed,([]:List GNode))))))) (0,r13.1.code,r13.1.pos,r13.1.seed,([]:List Str))
def NodeD (sig:Sig) (x:GNode):Prop:=(0≤x.control∧x.control<sig.length)∧(-20≤x.parent∧x.parent≤20)∧(x.links.length:Int)≤4
theorem bigraphR_vc (s:Cur) (sig:Sig) (most:Int) (h:bigraphR_pre s sig most):bigraphR_wp s sig most (bigraphR s sig most):=by
 unfold bigraphR_wp
 obtain⟨h,hs,hm0,hm1⟩:=h
 have hsl:=hs.len
 refine among_wp (Adv.refl s) h (by omega) (by simp) fun r1 a1 m1=>?_
 simp only[List.mem_cons,List.not_mem_nil,or_false] at m1
 refine pick_wp a1 h (by omega) fun r2 a2 l2 u2=>?_
 rintro names enames
 have hnl:names.length=4:=by rw[enames];rfl
 have hnn:∀ x ∈ names,x.length≤1:=by rw[enames];simp
 refine loopW.byM (fun t=>(0≤t.1∧t.1≤4)∧Adv (4+2 * t.1) s (Cur.mk t.2.1 t.2.2.1 t.2.2.2.1)∧(t.2.2.2.2.length:Int)≤t.1∧∀ x ∈ t.2.2.2.2,x.length≤1) (fun t=>(4 - t.1).toNat) ⟨by simp,a2,by simp,by simp⟩ ?_
 rintro⟨i,q1,q2,q3,outer⟩ ⟨hi,ha,hl,hn⟩
 simp only at hi ha hl hn
 have hon:=hn
 rintro _ rfl c ec
 refine⟨fun h0=>?_,fun _=>?_⟩
 ·have h0':i<4:=by simpa[ec,hnl] using h0
  refine one_wp ha h (by omega) fun r a=>?_
  have a':Adv (4+2 * (i+1)) s r.1:=a.le (by omega)
  refine⟨fun _=>⟨by omega,?_⟩,fun _=>⟨by simp only[I64];omega,?_⟩⟩
  ·rintro x rfl
   refine⟨by omega,?_⟩
   rintro l rfl
   refine⟨by simp only[I64];omega,?_⟩
   rintro v rfl
   refine⟨⟨by simp only;omega,a',by simp;omega,fun x hx=>?_⟩,by simp only;omega⟩
   rcases List.mem_append.1 hx with hx | hx
   ·exact hn x hx
   ·simp only[List.mem_singleton] at hx
    subst hx
    exact hnn _ (mem_at (by omega))
  ·rintro v rfl
   exact⟨⟨by simp only;omega,a',by simp only;omega,hn⟩,by simp only;omega⟩
 rintro _ rfl
 refine⟨by simp only[I64];omega,?_⟩
 rintro links elinks
 refine⟨by simp only[I64];omega,?_⟩
 rintro _ rfl
 refine pick_wp ha h (by omega) fun r3 a3 l3 u3=>?_
 have a3':Adv 14 s r3.1:=a3.le (by omega)
 refine⟨fun b=>b=false→0<sig.length,?_,?_⟩
 ·rintro _ rfl c ec
  refine⟨fun _=>by simp,fun h0=>?_⟩
  rintro c2 _ _
  have:¬ (sig.length:Int)=0:=by simpa[ec] using h0
  omega
 rintro b hb
 refine⟨fun n=>(0≤n∧n≤16)∧(0<n→0<sig.length),⟨fun _=>by simp,fun h0=>⟨by omega,fun _=>hb h0⟩⟩,?_⟩
 rintro n ⟨hn0,hns⟩
 refine loopW.byM (fun t=>(0≤t.1∧t.1≤n)∧Adv (14+16 * t.1) s (Cur.mk t.2.1 t.2.2.1 t.2.2.2.1)∧(t.2.2.2.2.length:Int)=t.1∧∀ x ∈ t.2.2.2.2,NodeD sig x) (fun t=>(n - t.1).toNat) ⟨by simp;omega,a3',by simp,by simp⟩ ?_
 rintro⟨i,q1,q2,q3,nodes⟩ ⟨hi,ha,hl,hn⟩
 simp only at hi ha hl hn
 rintro c ec
 refine⟨fun h0=>?_,fun _=>?_⟩
 ·have h0':i<n:=by simpa[ec] using h0
  have hsp:=hns (by omega)
  rintro _ rfl
  refine pick_wp ha h (by omega) fun r4 a4 l4 u4=>?_
  refine pick_wp a4 h (by omega) fun r5 a5 l5 u5=>⟨by simp only[I64];omega,?_⟩
  rintro p ep
  refine⟨by simp only[I64];omega,?_⟩
  rintro _ rfl
  refine pick_wp a5 h (by omega) fun r6 a6 l6 u6=>?_
  refine⟨fun t=>(t.1=true→r6.2<i)∧Adv (14+16 * i+8) s (Cur.mk t.2.1 t.2.2.1 t.2.2.2),?_,?_⟩
  ·rintro c ec
   refine⟨fun h1=>?_,fun _=>⟨by simp,a6.le (by omega)⟩⟩
   have h1':r6.2<i:=by simpa[ec] using h1
   refine⟨by omega,?_⟩
   rintro x rfl
   have hx:=hn _ (mem_at (l:=nodes) (i:=r6.2) (by omega))
   refine⟨hx.1,?_⟩
   rintro y rfl c _
   refine⟨fun _=>?_,fun _=>⟨by simp,a6.le (by omega)⟩⟩
   refine one_wp a6 h (by omega) fun r7 a7=>⟨fun _=>h1',a7.le (by omega)⟩
  rintro⟨t,w1,w2,w3⟩ ⟨ht,aw⟩
  simp only at ht aw
  refine⟨fun v => -20≤v∧v≤20,⟨fun h1=>by have:=ht h1;omega,fun _=>by omega⟩,?_⟩
  rintro par hpar
  refine⟨fun _=>True,?_,?_⟩
  ·refine⟨by omega,?_⟩
   rintro x rfl c ec
   exact⟨fun _=>by intros;trivial,fun _=>trivial⟩
  rintro b2 -
  refine⟨fun v=>0≤v∧v<sig.length,⟨fun _=>by omega,fun _=>by omega⟩,?_⟩
  rintro ct hct
  have hcm:=(hs.ctl _ (mem_at hct)).2.1
  refine loopW.byM (fun t=>(0≤t.1∧t.1≤4)∧Adv (14+16 * i+8+2 * t.1) s (Cur.mk t.2.1 t.2.2.1 t.2.2.2.1)∧(t.2.2.2.2.length:Int)=t.1) (fun t=>(4 - t.1).toNat) ⟨by simp,aw.le (by simp),by simp⟩ ?_
  rintro⟨k,p1,p2,p3,lk⟩ ⟨hk,hak,hlk⟩
  simp only at hk hak hlk
  refine⟨hct,?_⟩
  rintro x rfl c ec
  refine⟨fun h1=>?_,fun _=>⟨by omega,?_⟩⟩
  ·have h1':k<(at' sig ct).ports:=by simpa[ec] using h1
   rintro _ rfl
   refine pick_wp hak h (by omega) fun r8 a8 l8 u8=>?_
   rintro l rfl
   refine⟨by simp;omega,?_⟩
   rintro l rfl
   refine⟨by simp only[I64];omega,?_⟩
   rintro v rfl
   exact⟨⟨by simp only;omega,a8.le (by simp only;omega),by simp;omega⟩,by simp only;omega⟩
  ·rintro l rfl
   refine⟨by simp only[I64];omega,?_⟩
   rintro v rfl
   refine⟨⟨by simp only;omega,hak.le (by simp only;omega),by simp;omega,fun x hx=>?_⟩,by simp only;omega⟩
   rcases List.mem_append.1 hx with hx | hx
   ·exact hn x hx
   ·simp only[List.mem_singleton] at hx
    subst hx
    exact⟨hct,hpar,by show (lk.length:Int)≤4;omega⟩
 have ha':Adv 270 s (Cur.mk q1 q2 q3):=ha.le (by omega)
 refine loopW.byM (fun t=>(0≤t.1∧t.1≤4)∧Adv (270+10 * t.1) s (Cur.mk t.2.1 t.2.2.1 t.2.2.2.1)∧((t.2.2.2.2.1.length:Int)≤t.1∧∀ w ∈ t.2.2.2.2.1,w.name.length≤1)∧(t.2.2.2.2.2.length:Int)≤t.1∧∀ p ∈ t.2.2.2.2.2,-20≤p∧p≤20) (fun t=>(4 - t.1).toNat) ⟨by simp,ha',by simp,by simp⟩ ?_
 rintro⟨j,q1,q2,q3,inner,sites⟩ ⟨hj,hja,⟨hil,hin⟩,hsl2,hsn⟩
 simp only at hj hja hil hin hsl2 hsn
 rintro c ec
 refine⟨fun h0=>?_,fun _=>⟨⟨hja.use h (by omega),?_⟩,?_⟩⟩
 ·have h0':j<4:=by simpa[ec] using h0
  refine⟨fun t=>(t.1=true→0<r1.2)∧Adv (270+10 * j+2) s (Cur.mk t.2.1 t.2.2.1 t.2.2.2),?_,?_⟩
  ·rintro c ec
   refine⟨fun h1=>?_,fun _=>⟨by simp,hja.le (by omega)⟩⟩
   have h1':0<r1.2:=by simpa[ec] using h1
   exact one_wp hja h (by omega) fun r a=>⟨fun _=>h1',a⟩
  rintro⟨t,w1,w2,w3⟩ ⟨ht,aw⟩
  simp only at ht aw
  refine⟨fun t=>Adv (270+10 * j+6) s (Cur.mk t.1 t.2.1 t.2.2.1)∧(t.2.2.2.length:Int)≤j+1∧∀ p ∈ t.2.2.2,-20≤p∧p≤20,?_,?_⟩
  ·refine⟨fun h1=>?_,fun _=>⟨aw.le (by omega),by simp only;omega,hsn⟩⟩
   have h1':=ht h1
   refine pick_wp aw h (by omega) fun r8 a8 l8 u8=>⟨by simp only[I64];omega,?_⟩
   rintro v ev _ rfl
   refine⟨by simp only[I64];omega,?_⟩
   rintro _ rfl
   refine pick_wp a8 h (by omega) fun r9 a9 l9 u9=>?_
   refine⟨fun b=>b=true→r9.2<nodes.length,?_,?_⟩
   ·rintro _ rfl c ec
    refine⟨fun h2=>?_,fun _=>by simp⟩
    have h2':r9.2<nodes.length:=by simpa[ec] using h2
    refine⟨⟨l9,h2'⟩,?_⟩
    rintro x rfl
    refine⟨(hn _ (mem_at ⟨l9,h2'⟩)).1,?_⟩
    rintro y _ c _ _
    exact h2'
   ·rintro b hb
    have add:∀ p:Int,-20≤p∧p≤20→∀ q ∈ sites++[p],-20≤q∧q≤20:=fun p hp q hq=>by
     rcases List.mem_append.1 hq with hq | hq
     ·exact hsn q hq
     ·simp only[List.mem_singleton] at hq
      subst hq
      exact hp
    refine⟨fun h2=>⟨by omega,?_⟩,fun _=>⟨by omega,?_⟩⟩
    ·have:=hb h2
     rintro l rfl
     exact⟨a9.le (by omega),by simp;omega,add _ (by omega)⟩
    ·rintro l rfl
     exact⟨a9.le (by omega),by simp;omega,add _ (by omega)⟩
  rintro⟨w1,w2,w3,sites2⟩ ⟨aw2,hs1,hs2⟩
  simp only at aw2 hs1 hs2
  refine⟨fun t=>(t.1=true→0<links)∧Adv (270+10 * j+8) s (Cur.mk t.2.1 t.2.2.1 t.2.2.2),?_,?_⟩
  ·rintro c ec
   refine⟨fun h1=>?_,fun _=>⟨by simp,aw2.le (by omega)⟩⟩
   have h1':0<links:=by simpa[ec] using h1
   exact one_wp aw2 h (by omega) fun r a=>⟨fun _=>h1',a.le (by omega)⟩
  rintro⟨t,w1,w2,w3⟩ ⟨ht,aw3⟩
  simp only at ht aw3
  refine⟨fun h1=>⟨by omega,?_⟩,fun _=>⟨by simp only[I64];omega,?_⟩⟩
  ·have hnm:=hnn _ (mem_at (l:=names) (i:=j) (by omega))
   rintro x rfl
   refine pick_wp aw3 h (by omega) fun r10 a10 l10 u10=>?_
   rintro l rfl
   refine⟨by simp;omega,?_⟩
   rintro l rfl
   refine⟨by simp only[I64];omega,?_⟩
   rintro v rfl
   refine⟨⟨by simp only;omega,a10.le (by simp only;omega),⟨by simp;omega,fun w hw=>?_⟩,hs1,hs2⟩,by simp only;omega⟩
   rcases List.mem_append.1 hw with hw | hw
   ·exact hin w hw
   ·simp only[List.mem_singleton] at hw
    subst hw
    exact hnm
  ·rintro v rfl
   exact⟨⟨by simp only;omega,aw3.le (by simp only;omega),⟨by simp only;omega,hin⟩,hs1,hs2⟩,by simp only;omega⟩
 ·exact⟨by show -30≤r1.2∧r1.2≤30;omega,by show -30≤r2.2∧r2.2≤30;omega,by show (nodes.length:Int)≤30;omega,fun x hx=>by have:=(hn x hx).2.2;omega,fun x hx=>by have:=(hn x hx).2.1;simp only[I64];omega,
   by show (sites.length:Int)≤30;omega,fun p hp=>by have:=hsn p hp;simp only[I64];omega,by show (outer.length:Int)≤30;omega,fun x hx=>by have:=hon x hx;omega,by show (inner.length:Int)≤30;omega,fun w hw=>by have:=hin w hw;omega⟩
 ·rintro r ⟨ar,hr⟩
  exact⟨(hja.trans ar).le (by omega),hr⟩
end Go.Ab.Vg
/- Contract of impl.IsBigraph. -/
namespace Go.Ab
open Go.Proofs
set_option linter.unusedSimpArgs false
theorem e8:Ent Tryd.prog 8:=Ent.of Tryd.func8 (by kernel_rfl) rfl
theorem e32:Ent Tryd.prog 32:=Ent.of Tryd.func32 (by kernel_rfl) rfl
theorem e34:Ent Tryd.prog 34:=Ent.of Tryd.func34 (by kernel_rfl) rfl
theorem e36:Ent Tryd.prog 36:=Ent.of Tryd.func36 (by kernel_rfl) rfl
structure SmallB (sig:Sig) (b:Big):Prop where
 sigLen:sig.length≤1048576
 sigNames:∀ c ∈ sig,c.name.length≤1048576
 nodesLen:b.nodes.length≤1048576
 sitesLen:b.sites.length≤1048576
 outerLen:b.outer.length≤1048576
 innerLen:b.inner.length≤1048576
 outerNames:∀ s ∈ b.outer,s.length≤1048576
 innerNames:∀ w ∈ b.inner,w.name.length≤1048576
 linksLen:∀ x ∈ b.nodes,x.links.length≤1048576
 parents:∀ x ∈ b.nodes,I64 x.parent
 sites64:∀ p ∈ b.sites,I64 p
theorem clos76 {H:Heap} {n:Nat} {X:Id} (b:Big) (he:0≤b.edges∧b.edges≤8) (ho:b.outer.length≤1048576) (hX:H X=some ⟨6,[b.cells false]⟩) (l:Int):ClosC Tryd.prog H n (.fn (.func 32) [] [.ptr X 1 0 0]) [int l] (fun r=>r=bool (!okLink b l)):=by
 refine⟨32,[],[.ptr X 1 0 0],rfl,e32,?_⟩
 have hX':=hX
 simp only[Big.cells] at hX'
 refine StillC.of Tryd.func32 rfl Tryd.ntmps32 (by simp) fun Q hB hQ=>?_
 refine Runs.seqE Ty_ok (by decide) fun k' hk'=>?_
 simp   -- R0
 apply hk'
 refine Runs.seqE Ty_ok (by decide) fun k' hk'=>?_
 simp [hX']   -- R1
 refine RunK.callA Ty_ok (isLink_ok b l he ho) e33 (.cons (ArgOk.encB false b) (.cons (.v _ _ _) .nil)) (by decide) (by decide) rfl (by simp[encB,Big.cells]) ?_
 rintro _ rfl
 simp
 apply hk'
 exact Runs.ret Tryd.func32 (RetOk.one Tryd.results32) (hQ _ _ _ _ (.bnd (.v _)) (Frame.refl _ _) (by simp))
theorem clos80 {H:Heap} {n:Nat} {X:Id} (b:Big) (he:0≤b.edges∧b.edges≤8) (ho:b.outer.length≤1048576) (hX:H X=some ⟨6,[b.cells false]⟩) (w:Wire):ClosC Tryd.prog H n (.fn (.func 36) [] [.ptr X 1 0 0]) [.agg w.cells] (fun r=>r=bool (!okLink b w.link)):=by
 refine⟨36,[],[.ptr X 1 0 0],rfl,e36,?_⟩
 have hX':=hX
 simp only[Big.cells] at hX'
 refine StillC.of Tryd.func36 rfl Tryd.ntmps36 (by simp) fun Q hB hQ=>?_
 have hXn:=(hB X _ hX).1
 have hX2:¬ X=(n,2):=by rintro rfl;simp at hXn
 refine Runs.seqE Ty_ok (by decide) fun k' hk'=>?_
 simp [Wire.cells]   -- R0
 apply hk'
 refine Runs.seqE Ty_ok (by decide) fun k' hk'=>?_
 simp [hX2, hX']   -- R1
 refine RunK.callA Ty_ok (isLink_ok b w.link he ho) e33 (.cons (ArgOk.encB false b) (.cons (.v _ _ _) .nil)) (by decide) (by decide) rfl (by simp[encB,Big.cells]) ?_
 rintro _ rfl
 simp
 apply hk'
 exact Runs.ret Tryd.func36 (RetOk.one Tryd.results36) (hQ _ _ _ _ (.bnd (.v _)) (Frame.set (by simp) (Frame.refl _ _)) (by simp))
theorem clos78 {H:Heap} {n:Nat} {X Y:Id} (sig:Sig) (b:Big) (hr:0≤b.roots∧b.roots≤4) (hc:CtlOk sig b b.nodes.length) (hX:H X=some ⟨6,[b.cells false]⟩) (hY:H Y=some ⟨1,[[encSig false sig]]⟩) (p:Int) :
  ClosC Tryd.prog H n (.fn (.func 34) [] [.ptr X 1 0 0,.ptr Y 1 0 0]) [int p] (fun r=>r=bool (!okParent sig b p b.nodes.length)):=by
 refine⟨34,[],[.ptr X 1 0 0,.ptr Y 1 0 0],rfl,e34,?_⟩
 have hX':=hX
 simp only[Big.cells,encN] at hX'
 have hY':=hY
 simp only[encSig] at hY'
 refine StillC.of Tryd.func34 rfl Tryd.ntmps34 (by simp) fun Q hB hQ=>?_
 refine Runs.seqE Ty_ok (by decide) fun k' hk'=>?_
 simp   -- R0
 apply hk'
 refine Runs.seqE Ty_ok (by decide) fun k' hk'=>?_
 simp [hX', hY']   -- R1
 refine RunK.callA Ty_ok (isParent_ok sig b p b.nodes.length hr (Nat.le_refl _) hc) e30 (.cons (ArgOk.encB false b) (.cons (ArgOk.encSig false sig) (.cons (.v _ _ _) (.cons (.v _ _ _) .nil)))) (by decide) (by decide) rfl (by simp[encB,Big.cells,encN,encSig]) ?_
 rintro _ rfl
 simp
 apply hk'
 exact Runs.ret Tryd.func34 (RetOk.one Tryd.results34) (hQ _ _ _ _ (.bnd (.v _)) (Frame.refl _ _) (by simp))
theorem ctl_step {sig:Sig} {b:Big} {k:Nat} (h:okNodeB sig b k=true) (hk:CtlOk sig b k):CtlOk sig b (k+1):=by
 intro i hi
 rcases Nat.lt_or_ge i k with h1 | h1
 ·exact hk i h1
 ·have:i=k:=by omega
  subst this
  simp only[okNodeB,within,Bool.and_eq_true,decide_eq_true_eq] at h
  omega
def goodPre (sig:Sig) (b:Big):Bool:=
 goodSig sig && within b.roots 0 4 && decide (b.nodes.length≤8) && decide (b.sites.length≤4) && within b.edges 0 8 && goodNames b.outer && goodNames (names b)
theorem goodB_eq (sig:Sig) (b:Big):goodB sig b=(goodPre sig b && (List.range b.nodes.length).all (okNodeB sig b) && b.sites.all (fun p=>okParent sig b p b.nodes.length) && b.inner.all (fun w=>okLink b w.link)):=rfl
theorem any_not {α:Type} (l:List α) (p:α→Bool):(l.any fun x => !p x) = !l.all p:=by
 induction l with
 | nil=>rfl
 | cons a l ih=>simp[ih]
theorem IsBigraph_ok (sig:Sig) (b:Big) (hs:SmallB sig b):PureC Tryd.prog 8 [encSig false sig,encB false b] (fun r=>r=bool (goodB sig b)):=by
 obtain⟨s1,s2,s3,s4,s5,s6,s7,s8,s9,_,_⟩:=hs
 have hnl:(names b).length≤1048576:=by simpa[names] using s6
 have hnn:∀ s ∈ names b,s.length≤1048576:=by
  intro s hs
  obtain⟨w,hw,rfl⟩:=List.mem_map.1 hs
  exact s8 w hw
 refine PureC.of Tryd.func8 rfl Tryd.ntmps8 (by simp) fun Q hQ=>?_
 refine Runs.seqE Ty_ok (by decide) fun k' hk'=>?_
 simp [encSig, encB, Big.cells]   -- R0
 apply hk'
 refine Runs.cut (fun ρ H n=>ρ 2 = .ptr (0,2) 1 0 0∧ρ 3 = .ptr (1,3) 1 0 0∧H (0,2)=some ⟨1,[[encSig false sig]]⟩∧H (1,3)=some ⟨6,[b.cells false]⟩) ⟨by simp,by simp,by simp[encSig],by simp[Big.cells]⟩ ?_
 clear hk'
 rintro ρ H n ⟨h2,h3,hm2,hm3⟩
 have hm2':=hm2
 simp only[encSig] at hm2'
 have hm3':=hm3
 simp only[Big.cells,encN,encI,encS,encW] at hm3'
 refine Runs.seq ?_
 refine Runs.seqE Ty_ok (by decide) fun k' hk'=>?_
 have fin:∀ ρ:Env,ρ 2 = .ptr (0,2) 1 0 0→ρ 3 = .ptr (1,3) 1 0 0→ρ 45=bool (!goodPre sig b)→Runs Tryd.prog 8 101 k' ρ H n Q:=by
  intro ρ h2 h3 h45
  apply hk'
  refine Runs.ite h45 (fun hc1 => ?_) (fun hc1 => ?_)   -- t45
  ·have hb:goodPre sig b=false:=by simpa using hc1
   refine Runs.seqE Ty_ok (by decide) fun k' hk'=>?_
   simp   -- R2
   apply hk'
   exact Runs.ret Tryd.func8 (RetOk.one Tryd.results8) (hQ _ _ _ _ (.v _ _ _) (by rw[goodB_eq,hb];rfl))
  ·have hb:goodPre sig b=true:=by simpa using hc1
   have hb':=hb
   simp only[goodPre,within,Bool.and_eq_true,decide_eq_true_eq] at hb'
   obtain⟨⟨⟨⟨⟨⟨_,hr⟩,hn8⟩,_⟩,hed⟩,_⟩,_⟩:=hb'
   refine Runs.skip ?_
   refine Runs.seq ?_
   refine Runs.seqE Ty_ok (by decide) fun k' hk'=>?_
   simp [h3, hm3']   -- R3
   apply hk'
   refine Runs.block (Runs.loopUp b.nodes.length (fun k ρ H n=>ρ 2 = .ptr (0,2) 1 0 0∧ρ 3 = .ptr (1,3) 1 0 0∧ρ 47 = .list false (b.nodes.map (GNode.cells false))∧ρ 48=int b.nodes.length∧ρ 49=int k ∧
    H (0,2)=some ⟨1,[[encSig false sig]]⟩∧H (1,3)=some ⟨6,[b.cells false]⟩∧CtlOk sig b k∧(∀ i,i<k→okNodeB sig b i=true)) ?_ ?_)
   ·exact⟨by simp[h2],by simp[h3],by simp,by simp,by simp,hm2,hm3,fun i hi=>by omega,fun i hi=>by omega⟩
   ·clear h2 h3 hm2' hm3'
    rintro k ρ H n hk ⟨h2,h3,h47,h48,h49,hm2,hm3,hctl,hall⟩ IH
    have hm2':=hm2
    simp only[encSig] at hm2'
    have hm3':=hm3
    simp only[Big.cells,encN,encI,encS,encW] at hm3'
    refine Runs.seqE Ty_ok (by decide) fun k' hk'=>?_
    simp [h48, h49]   -- R4
    apply hk'
    refine Runs.seq ?_
    refine Runs.ite rfl (fun hc2 => ?_) (fun hc2 => ?_)   -- t50
    ·have hc2:k<b.nodes.length:=by simpa using hc2
     have hgk:b.nodes.getD k default=b.nodes[k]:=by simp[hc2]
     refine Runs.skip ?_
     refine Runs.seq ?_
     refine Runs.block ?_
     refine Runs.seqE Ty_ok (by decide) fun k' hk'=>?_
     simp [h47, h49, hc2, GNode.cells]   -- R5
     apply hk'
     refine Runs.cut (fun ρ H m=>ρ 2 = .ptr (0,2) 1 0 0∧ρ 3 = .ptr (1,3) 1 0 0∧ρ 47 = .list false (b.nodes.map (GNode.cells false))∧ρ 48=int b.nodes.length∧ρ 49=int k∧ρ 5=int k∧ρ 6 = .ptr (n,6) 1 0 0 ∧
      H (0,2)=some ⟨1,[[encSig false sig]]⟩∧H (1,3)=some ⟨6,[b.cells false]⟩∧H (n,6)=some ⟨3,[b.nodes[k].cells false]⟩∧m=n+1) ?_ ?_
     ·exact⟨by simp[h2],by simp[h3],by simp[h47],by simp[h48],by simp[h49],by simp,by simp,by simp[hm2],by simp[hm3],by simp[GNode.cells],rfl⟩
     clear hk' h2 h3 h47 h48 h49 hm2 hm3 hm2' hm3'
     rintro ρ H m ⟨h2,h3,h47,h48,h49,h5,h6,hm2,hm3,hm6,rfl⟩
     have hm2':=hm2
     simp only[encSig] at hm2'
     have hm3':=hm3
     simp only[Big.cells,encN,encI,encS,encW] at hm3'
     have hm6':=hm6
     simp only[GNode.cells] at hm6'
     refine Runs.seqD Ty_ok kindOp_ok draws (by decide) (by kernel_rfl) fun k' hk'=>?_
     have fin:∀ ρ:Env,ρ 2 = .ptr (0,2) 1 0 0→ρ 3 = .ptr (1,3) 1 0 0→ρ 47 = .list false (b.nodes.map (GNode.cells false))→ρ 48=int b.nodes.length→ρ 49=int k→ρ 87=bool (!okNodeB sig b k)→Runs Tryd.prog 8 101 k' ρ H (n+1) Q:=by
      intro ρ h2 h3 h47 h48 h49 h87
      apply hk'
      refine Runs.ite h87 (fun hc3 => ?_) (fun hc3 => ?_)   -- t87
      ·have hb:okNodeB sig b k=false:=by simpa using hc3
       refine Runs.seqE Ty_ok (by decide) fun k' hk'=>?_
       simp   -- R7
       apply hk'
       exact Runs.ret Tryd.func8 (RetOk.one Tryd.results8) (hQ _ _ _ _ (.v _ _ _) (by rw[goodB_eq,all_range_bad hc2 hb,Bool.and_false];rfl))
      ·have hb:okNodeB sig b k=true:=by simpa using hc3
       refine Runs.skip ?_
       refine Runs.inBlock ?_
       refine Runs.evalE Ty_ok (by decide) fun k' hk'=>?_
       simp [h49, wrap_succ (show k < 4611686018427387904 by omega)]   -- R8
       apply hk'
       refine IH hc2 _ _ _ ⟨by simp[h2],by simp[h3],by simp[h47],by simp[h48],by simp,hm2,hm3,ctl_step hb hctl,fun i hi=>?_⟩
       rcases Nat.lt_or_ge i k with h | h
       ·exact hall i h
       ·rw[show i=k by omega];exact hb
     have hw:IntKind.i64.wrap ((sig.length:Int) - 1)=(sig.length:Int) - 1:=by rw[wrap64]<;>omega
     simp [h2, h6, hm2', hm6', hw]   -- R6
     refine RunDK.callA Ty_ok kindOp_ok (within_ok b.nodes[k].control 0 ((sig.length:Int) - 1)) e27 (.cons (.v _ _ _) (.cons (.v _ _ _) (.cons (.v _ _ _) .nil))) (by decide) rfl (by simp) ?_
     cases q1:within b.nodes[k].control 0 ((sig.length:Int) - 1)
     ·simp[guardOf]
      exact fin _ (by simp[h2]) (by simp[h3]) (by simp[h47]) (by simp[h48]) (by simp[h49]) (by simp only[okNodeB,hgk,q1];simp)
     simp[h2,h3,h5,h6,hm2',hm3',hm6',guardOf]
     refine RunDK.callA Ty_ok kindOp_ok (isParent_ok sig b b.nodes[k].parent k hr (by omega) hctl) e30 (.cons (ArgOk.encB false b) (.cons (ArgOk.encSig false sig) (.cons (.v _ _ _) (.cons (.v _ _ _) .nil)))) (by decide) rfl (by simp[encB,Big.cells,encN,encI,encS,encW,encSig]) ?_
     cases q2:okParent sig b b.nodes[k].parent k
     ·simp[guardOf]
      exact fin _ (by simp[h2]) (by simp[h3]) (by simp[h47]) (by simp[h48]) (by simp[h49]) (by simp only[okNodeB,hgk,q2];simp)
     have q1':=q1
     simp only[within,Bool.and_eq_true,decide_eq_true_eq] at q1'
     obtain⟨c,hc⟩:∃ c:Nat,b.nodes[k].control=c:=⟨b.nodes[k].control.toNat,by omega⟩
     have hcl:c<sig.length:=by omega
     have q1c:=q1
     rw[hc] at q1c
     have hgc:sig.getD c default=sig[c]:=by simp[hcl]
     by_cases q3:(b.nodes[k].links.length:Int)=sig[c].ports
     ·have q3':((b.nodes[k].links.length:Int) != sig[c].ports)=false:=by simpa using q3
      simp[h2,h3,h6,hm2',hm6',hc,hcl,q3',Control.cells,guardOf]
      refine RunDK.callT Ty_ok kindOp_ok (containsFuncI_ok false b.nodes[k].links (fun l => !okLink b l) (s9 _ (List.getElem_mem hc2)) (fun l _=>clos76 b hed s5 hm3 l)) e31 (by decide) rfl (by simp) ?_
      simp
      refine fin _ (by simp[h2]) (by simp[h3]) (by simp[h47]) (by simp[h48]) (by simp[h49]) ?_
      simp only[okNodeB,hgk,q1c,q2,hc,Int.toNat_natCast,hgc,q3,any_not]
      simp
     ·have q3':((b.nodes[k].links.length:Int) != sig[c].ports)=true:=by simpa using q3
      simp[h2,h3,h6,hm2',hm6',hc,hcl,q3',Control.cells,guardOf]
      exact fin _ (by simp[h2]) (by simp[h3]) (by simp[h47]) (by simp[h48]) (by simp[h49]) (by simp only[okNodeB,hgk,q1c,q2,hc,Int.toNat_natCast,hgc,q3];simp)
    ·have hc2:¬ k<b.nodes.length:=by simpa using hc2
     have hke:k=b.nodes.length:=by omega
     subst hke
     have hnodes:=all_range_end hall
     refine Runs.exit rfl ?_
     refine Runs.seqE Ty_ok (by decide) fun k' hk'=>?_
     simp [h2, h3, hm3']   -- R9
     refine RunK.callT Ty_ok (containsFuncI_ok false b.sites (fun p => !okParent sig b p b.nodes.length) s4 (fun p _=>clos78 sig b hr hctl hm3 hm2 p)) e31 (by decide) (by decide) rfl (by simp) ?_
     rintro _ rfl
     rw[any_not]
     cases r1:b.sites.all (fun p=>okParent sig b p b.nodes.length)
     ·simp[guardOf]
      apply hk'
      exact Runs.ret Tryd.func8 (RetOk.one Tryd.results8) (hQ _ _ _ _ (.v _ _ _) (by rw[goodB_eq,r1];simp))
     ·simp[h3,hm3',guardOf]
      refine RunK.callT Ty_ok (containsFuncW_ok false b.inner (fun w => !okLink b w.link) s6 (fun w _=>clos80 b hed s5 hm3 w)) e35 (by decide) (by decide) rfl (by simp) ?_
      rintro _ rfl
      rw[any_not]
      simp
      apply hk'
      exact Runs.ret Tryd.func8 (RetOk.one Tryd.results8) (hQ _ _ _ _ (.v _ _ _) (by rw[goodB_eq,hb,hnodes,r1];simp))
 simp [h2, hm2']   -- R1
 refine RunK.callA Ty_ok (IsSignature_ok sig s1 s2) e26 (.cons (ArgOk.encSig false sig) .nil) (by decide) (by decide) rfl (by simp[encSig]) ?_
 rintro _ rfl
 cases p1:goodSig sig
 ·simp[guardOf]
  exact fin _ (by simp[h2]) (by simp[h3]) (by simp only[goodPre,p1];simp)
 simp[h3,hm3',guardOf]
 refine RunK.callA Ty_ok (within_ok b.roots 0 4) e27 (.cons (.v _ _ _) (.cons (.v _ _ _) (.cons (.v _ _ _) .nil))) (by decide) (by decide) rfl (by simp) ?_
 rintro _ rfl
 cases p2:within b.roots 0 4
 ·simp[guardOf]
  exact fin _ (by simp[h2]) (by simp[h3]) (by simp only[goodPre,p2];simp)
 by_cases p3:(8:Int)<b.nodes.length
 ·simp[h3,hm3',p3,guardOf]
  exact fin _ (by simp[h2]) (by simp[h3]) (by simp only[goodPre,show ¬ b.nodes.length≤8 by omega];simp)
 by_cases p4:(4:Int)<b.sites.length
 ·simp[h3,hm3',p3,p4,guardOf]
  exact fin _ (by simp[h2]) (by simp[h3]) (by simp only[goodPre,show ¬ b.sites.length≤4 by omega];simp)
 simp[h3,hm3',p3,p4,guardOf]
 refine RunK.callA Ty_ok (within_ok b.edges 0 8) e27 (.cons (.v _ _ _) (.cons (.v _ _ _) (.cons (.v _ _ _) .nil))) (by decide) (by decide) rfl (by simp) ?_
 rintro _ rfl
 cases p5:within b.edges 0 8
 ·simp[guardOf]
  exact fin _ (by simp[h2]) (by simp[h3]) (by simp only[goodPre,p5];simp)
 simp[h3,hm3',guardOf]
 refine RunK.callA Ty_ok (areNames_ok b.outer s5 s7) e28 (.cons (ArgOk.encS false b.outer) .nil) (by decide) (by decide) rfl (by simp[encS]) ?_
 rintro _ rfl
 cases p6:goodNames b.outer
 ·simp[guardOf]
  exact fin _ (by simp[h2]) (by simp[h3]) (by simp only[goodPre,p6];simp)
 simp[h3,hm3',guardOf]
 refine RunK.callA Ty_ok (innerNames_ok b s6) e29 (.cons (ArgOk.encB false b) .nil) (by decide) (by decide) rfl (by simp[encB,Big.cells,encN,encI,encS,encW]) ?_
 rintro _ rfl
 simp
 refine RunK.callA Ty_ok (areNames_ok (names b) hnl hnn) e28 (.cons (ArgOk.encS true (names b)) .nil) (by decide) (by decide) rfl (by simp[encS]) ?_
 rintro _ rfl
 simp
 exact fin _ (by simp[h2]) (by simp[h3]) (by simp only[goodPre,p1,p2,p5,p6,show b.nodes.length≤8 by omega,show b.sites.length≤4 by omega];simp)
end Go.Ab
/- Contracts of spec.l2Node and spec.l2Good. -/
namespace Go.Ab
open Go.Proofs
set_option linter.unusedSimpArgs false
theorem e22:Ent Tryd.prog 22:=Ent.of Tryd.func22 (by kernel_rfl) rfl
theorem e51:Ent Tryd.prog 51:=Ent.of Tryd.func51 (by kernel_rfl) rfl
theorem all_bad {α:Type} {l:List α} {p:α→Bool} {k:Nat} (hk:k<l.length) (h:p l[k]=false):l.all p=false:=by
 rw[List.all_eq_false]
 exact⟨l[k],List.getElem_mem hk,by simp[h]⟩
theorem all_end {α:Type} {l:List α} {p:α→Bool} (h:∀ i (hi:i<l.length),p l[i]=true):l.all p=true:=by
 rw[List.all_eq_true]
 intro x hx
 obtain⟨i,hi,rfl⟩:=List.getElem_of_mem hx
 exact h i hi
theorem l2Node_ok (sig:Sig) (b:Big) (hs:SmallB sig b) (k:Nat) (hk:k<b.nodes.length) (hr:0≤b.roots∧b.roots≤4) (he:0≤b.edges∧b.edges≤8) (hctl:CtlOk sig b k) :
  PureC Tryd.prog 51 [encSig false sig,encB false b,int k] (fun r=>r=bool (okNodeB sig b k)):=by
 have hgk:b.nodes.getD k default=b.nodes[k]:=by simp[hk]
 have hll:=hs.linksLen _ (List.getElem_mem hk)
 have hpar:=hs.parents _ (List.getElem_mem hk)
 have hol:=hs.outerLen
 have hsl:=hs.sigLen
 refine PureC.of Tryd.func51 rfl Tryd.ntmps51 (by simp) fun Q hQ=>?_
 refine Runs.seqE Ty_ok (by decide) fun k' hk'=>?_
 simp [encSig, encB, Big.cells]   -- R0
 apply hk'
 refine Runs.seqE Ty_ok (by decide) fun k' hk'=>?_
 simp [encN, hk, GNode.cells]   -- R1
 apply hk'
 refine Runs.cut (fun ρ H n=>ρ 0 = .list false (sig.map Control.cells)∧ρ 2=int k∧ρ 4 = .ptr (0,4) 1 0 0∧ρ 7 = .ptr (1,7) 1 0 0∧H (0,4)=some ⟨6,[b.cells false]⟩∧H (1,7)=some ⟨3,[b.nodes[k].cells false]⟩) ⟨by simp,by simp,by simp,by simp,by simp[Big.cells,encN,GNode.cells],by simp[GNode.cells]⟩ ?_
 clear hk'
 rintro ρ H n ⟨h0,h2,h4,h7,hm4,hm7⟩
 have hm4':=hm4
 simp only[Big.cells,encN,encI,encS,encW] at hm4'
 have hm7':=hm7
 simp only[GNode.cells] at hm7'
 refine Runs.seq ?_
 refine Runs.seqD Ty_ok kindOp_ok draws (by decide) (by kernel_rfl) fun k' hk'=>?_
 have fin:∀ (ρ:Env) (pre:Bool),ρ 4 = .ptr (0,4) 1 0 0→ρ 7 = .ptr (1,7) 1 0 0→ρ 41=bool (!pre)→okNodeB sig b k=(pre && b.nodes[k].links.all (okLink b))→Runs Tryd.prog 51 57 k' ρ H n Q:=by
  intro ρ pre h4 h7 h41 hpre
  apply hk'
  refine Runs.ite h41 (fun hc1 => ?_) (fun hc1 => ?_)   -- t41
  ·have hb:pre=false:=by simpa using hc1
   refine Runs.seqE Ty_ok (by decide) fun k' hk'=>?_
   simp   -- R3
   apply hk'
   exact Runs.ret Tryd.func51 (RetOk.one Tryd.results51) (hQ _ _ _ _ (.v _ _ _) (by rw[hpre,hb];rfl))
  ·have hb:pre=true:=by simpa using hc1
   rw[hb,Bool.true_and] at hpre
   refine Runs.skip ?_
   refine Runs.seq ?_
   refine Runs.seqE Ty_ok (by decide) fun k' hk'=>?_
   simp   -- R4
   apply hk'
   refine Runs.block (Runs.loopUp b.nodes[k].links.length (fun j ρ' H' n'=>ρ' 4 = .ptr (0,4) 1 0 0∧ρ' 7 = .ptr (1,7) 1 0 0∧ρ' 8=int j∧H'=H∧n'=n∧∀ i (hi:i<b.nodes[k].links.length),i<j→okLink b b.nodes[k].links[i]=true) ?_ ?_)
   ·exact⟨by simp[h4],by simp[h7],by simp,rfl,rfl,fun i hi h=>by omega⟩
   ·clear h4 h7
    rintro j ρ H' n' hj ⟨h4,h7,h8,rfl,rfl,hall⟩ IH
    refine Runs.seq ?_
    refine Runs.seqE Ty_ok (by decide) fun k' hk'=>?_
    simp [h7, h8, hm7']   -- R5
    apply hk'
    refine Runs.ite rfl (fun hc2 => ?_) (fun hc2 => ?_)   -- t46
    ·have hc2:j<b.nodes[k].links.length:=by simpa using hc2
     refine Runs.skip ?_
     refine Runs.seq ?_
     refine Runs.block ?_
     refine Runs.seqD Ty_ok kindOp_ok draws (by decide) (by kernel_rfl) fun k' hk'=>?_
     simp [h4, h7, h8, hm4', hm7', hc2, intC]   -- R7
     refine RunDK.callA Ty_ok kindOp_ok (l2Link_ok b b.nodes[k].links[j] he hol) e53 (.cons (ArgOk.encB false b) (.cons (.v _ _ _) .nil)) (by decide) rfl (by simp[encB,Big.cells,encN,encI,encS,encW,intC]) ?_
     simp
     apply hk'
     refine Runs.ite rfl (fun hc3 => ?_) (fun hc3 => ?_)   -- t56
     ·have hb3:okLink b b.nodes[k].links[j]=false:=by simpa using hc3
      refine Runs.seqE Ty_ok (by decide) fun k' hk'=>?_
      simp   -- R8
      apply hk'
      exact Runs.ret Tryd.func51 (RetOk.one Tryd.results51) (hQ _ _ _ _ (.v _ _ _) (by rw[hpre,all_bad hc2 hb3]))
     ·have hb3:okLink b b.nodes[k].links[j]=true:=by simpa using hc3
      refine Runs.skip ?_
      refine Runs.inBlock ?_
      refine Runs.evalE Ty_ok (by decide) fun k' hk'=>?_
      simp [h8, wrap_succ (show j < 4611686018427387904 by omega)]   -- R6
      apply hk'
      refine IH hc2 _ _ _ ⟨by simp[h4],by simp[h7],by simp,rfl,rfl,fun i hi hij=>?_⟩
      rcases Nat.lt_or_ge i j with h | h
      ·exact hall i hi h
      ·have:i=j:=by omega
       subst this
       exact hb3
    ·have hc2:¬ j<b.nodes[k].links.length:=by simpa using hc2
     have hje:j=b.nodes[k].links.length:=by omega
     subst hje
     refine Runs.exit rfl ?_
     refine Runs.seqE Ty_ok (by decide) fun k' hk'=>?_
     simp   -- R9
     apply hk'
     exact Runs.ret Tryd.func51 (RetOk.one Tryd.results51) (hQ _ _ _ _ (.v _ _ _) (by rw[hpre,all_end fun i hi=>hall i hi hi]))
 have hw:IntKind.i64.wrap ((sig.length:Int) - 1)=(sig.length:Int) - 1:=by rw[wrap64]<;>omega
 simp [h0, h7, hm7', hw]   -- R2
 refine RunDK.callA Ty_ok kindOp_ok (l1In_ok b.nodes[k].control 0 ((sig.length:Int) - 1)) e48 (.cons (.v _ _ _) (.cons (.v _ _ _) (.cons (.v _ _ _) .nil))) (by decide) rfl (by simp) ?_
 cases q1:within b.nodes[k].control 0 ((sig.length:Int) - 1)
 ·simp[guardOf]
  exact fin _ false (by simp[h4]) (by simp[h7]) (by simp) (by simp only[okNodeB,hgk,q1];simp)
 simp[h0,h2,h4,h7,hm4',hm7',guardOf]
 refine RunDK.callA Ty_ok kindOp_ok (l2Under_ok sig b b.nodes[k].parent k hpar hr (by omega) hctl) e52 (.cons (ArgOk.encSig false sig) (.cons (ArgOk.encB false b) (.cons (.v _ _ _) (.cons (.v _ _ _) .nil)))) (by decide) rfl (by simp[encB,Big.cells,encN,encI,encS,encW,encSig]) ?_
 cases q2:okParent sig b b.nodes[k].parent k
 ·simp[guardOf]
  exact fin _ false (by simp[h4]) (by simp[h7]) (by simp) (by simp only[okNodeB,hgk,q2];simp)
 have q1':=q1
 simp only[within,Bool.and_eq_true,decide_eq_true_eq] at q1'
 obtain⟨c,hc⟩:∃ c:Nat,b.nodes[k].control=c:=⟨b.nodes[k].control.toNat,by omega⟩
 have hcl:c<sig.length:=by omega
 have q1c:=q1
 rw[hc] at q1c
 have hgc:sig.getD c default=sig[c]:=by simp[hcl]
 by_cases q3:(b.nodes[k].links.length:Int)=sig[c].ports
 ·have q3':((b.nodes[k].links.length:Int) != sig[c].ports)=false:=by simpa using q3
  simp[h0,h7,hm7',hc,hcl,q3',Control.cells,guardOf]
  exact fin _ true (by simp[h4]) (by simp[h7]) (by simp) (by simp only[okNodeB,hgk,q1c,q2,hc,Int.toNat_natCast,hgc,q3];simp)
 ·have q3':((b.nodes[k].links.length:Int) != sig[c].ports)=true:=by simpa using q3
  simp[h0,h7,hm7',hc,hcl,q3',Control.cells,guardOf]
  exact fin _ false (by simp[h4]) (by simp[h7]) (by simp) (by simp only[okNodeB,hgk,q1c,q2,hc,Int.toNat_natCast,hgc,q3];simp)
end Go.Ab
/- Contract of spec.l2Good. -/
namespace Go.Ab
open Go.Proofs
set_option linter.unusedSimpArgs false
theorem ctl_all {sig:Sig} {b:Big} {k:Nat} (h:∀ i,i<k→okNodeB sig b i=true):CtlOk sig b k:=by
 induction k with
 | zero=>intro i hi;omega
 | succ k ih=>exact ctl_step (h k (by omega)) (ih fun i hi=>h i (by omega))
def pre1 (sig:Sig) (b:Big):Bool:=goodSig sig && within b.roots 0 4 && decide (b.nodes.length≤8) && decide (b.sites.length≤4) && within b.edges 0 8
def pre2 (b:Big):Bool:=goodNames b.outer && goodNames (names b)
theorem goodPre_eq (sig:Sig) (b:Big):goodPre sig b=(pre1 sig b && pre2 b):=by
 simp only[goodPre,pre1,pre2,Bool.and_assoc]
theorem l2Good_ok (sig:Sig) (b:Big) (hs:SmallB sig b):PureC Tryd.prog 22 [encSig false sig,encB false b] (fun r=>r=bool (goodB sig b)):=by
 obtain⟨s1,s2,s3,s4,s5,s6,s7,s8,s9,s10,s11⟩:=id hs
 have hnl:(names b).length≤1048576:=by simpa[names] using s6
 have hnn:∀ s ∈ names b,s.length≤1048576:=by
  intro s hs
  obtain⟨w,hw,rfl⟩:=List.mem_map.1 hs
  exact s8 w hw
 refine PureC.of Tryd.func22 rfl Tryd.ntmps22 (by simp) fun Q hQ=>?_
 have no:goodB sig b=false→∀ H n,Q (bool false) H n:=fun h H n=>hQ _ _ _ _ (.v _ _ _) (by rw[h])
 refine Runs.seqE Ty_ok (by decide) fun k' hk'=>?_
 simp [encSig, encB, Big.cells]   -- R0
 apply hk'
 refine Runs.cut (fun ρ H n=>ρ 0 = .list false (sig.map Control.cells)∧ρ 3 = .ptr (0,3) 1 0 0∧H (0,3)=some ⟨6,[b.cells false]⟩) ⟨by simp,by simp,by simp[Big.cells]⟩ ?_
 clear hk'
 rintro ρ H n ⟨h0,h3,hm3⟩
 have hm3':=hm3
 simp only[Big.cells,encN,encI,encS,encW] at hm3'
 refine Runs.seq ?_
 refine Runs.seqE Ty_ok (by decide) fun k' hk'=>?_
 have fin:∀ ρ:Env,ρ 0 = .list false (sig.map Control.cells)→ρ 3 = .ptr (0,3) 1 0 0→ρ 34=bool (!pre1 sig b)→Runs Tryd.prog 22 98 k' ρ H n Q:=by
  clear h0 h3
  intro ρ h0 h3 h34
  apply hk'
  refine Runs.ite h34 (fun hc1 => ?_) (fun hc1 => ?_)   -- t34
  ·have hb:pre1 sig b=false:=by simpa using hc1
   refine Runs.seqE Ty_ok (by decide) fun k' hk'=>?_
   simp   -- R2
   apply hk'
   exact Runs.ret Tryd.func22 (RetOk.one Tryd.results22) (no (by rw[goodB_eq,goodPre_eq,hb];rfl) _ _)
  ·have hb1:pre1 sig b=true:=by simpa using hc1
   have hb':=hb1
   simp only[pre1,within,Bool.and_eq_true,decide_eq_true_eq] at hb'
   obtain⟨⟨⟨⟨_,hr⟩,hn8⟩,_⟩,hed⟩:=hb'
   refine Runs.skip ?_
   refine Runs.seq ?_
   refine Runs.seqE Ty_ok (by decide) fun k' hk'=>?_
   have fin2:∀ ρ:Env,ρ 0 = .list false (sig.map Control.cells)→ρ 3 = .ptr (0,3) 1 0 0→ρ 50=bool (!pre2 b)→Runs Tryd.prog 22 98 k' ρ H n Q:=by
    clear h0 h3
    intro ρ h0 h3 h50
    apply hk'
    refine Runs.ite h50 (fun hc1 => ?_) (fun hc1 => ?_)   -- t50
    ·have hb:pre2 b=false:=by simpa using hc1
     refine Runs.seqE Ty_ok (by decide) fun k' hk'=>?_
     simp   -- R4
     apply hk'
     exact Runs.ret Tryd.func22 (RetOk.one Tryd.results22) (no (by rw[goodB_eq,goodPre_eq,hb,Bool.and_false];rfl) _ _)
    ·have hb2:pre2 b=true:=by simpa using hc1
     have hpre:goodPre sig b=true:=by rw[goodPre_eq,hb1,hb2];rfl
     refine Runs.skip ?_
     refine Runs.seq ?_
     refine Runs.seqE Ty_ok (by decide) fun k' hk'=>?_
     simp   -- R5
     apply hk'
     refine Runs.block (Runs.loopUp b.nodes.length (fun k ρ' H' n'=>ρ' 0 = .list false (sig.map Control.cells)∧ρ' 3 = .ptr (0,3) 1 0 0∧ρ' 5=int k∧H'=H∧n'=n∧∀ i,i<k→okNodeB sig b i=true) ?_ ?_)
     ·exact⟨by simp[h0],by simp[h3],by simp,rfl,rfl,fun i hi=>by omega⟩
     ·clear h0 h3
      rintro k ρ H' n' hk ⟨h0,h3,h5,rfl,rfl,hall⟩ IH
      refine Runs.seq ?_
      refine Runs.seqE Ty_ok (by decide) fun k' hk'=>?_
      simp [h3, h5, hm3']   -- R6
      apply hk'
      refine Runs.ite rfl (fun hc2 => ?_) (fun hc2 => ?_)   -- t55
      ·have hc2:k<b.nodes.length:=by simpa using hc2
       refine Runs.skip ?_
       refine Runs.seq ?_
       refine Runs.block ?_
       refine Runs.seqE Ty_ok (by decide) fun k' hk'=>?_
       simp [h0, h3, h5, hm3']   -- R8
       refine RunK.callA Ty_ok (l2Node_ok sig b hs k hc2 hr hed (ctl_all hall)) e51 (.cons (ArgOk.encSig false sig) (.cons (ArgOk.encB false b) (.cons (.v _ _ _) .nil))) (by decide) (by decide) rfl (by simp[h0,h5,encSig,encB,Big.cells,encN,encI,encS,encW]) ?_
       rintro _ rfl
       simp
       apply hk'
       refine Runs.ite rfl (fun hc3 => ?_) (fun hc3 => ?_)   -- t62
       ·have hb3:okNodeB sig b k=false:=by simpa using hc3
        refine Runs.seqE Ty_ok (by decide) fun k' hk'=>?_
        simp   -- R9
        apply hk'
        exact Runs.ret Tryd.func22 (RetOk.one Tryd.results22) (no (by rw[goodB_eq,all_range_bad hc2 hb3,Bool.and_false];rfl) _ _)
       ·have hb3:okNodeB sig b k=true:=by simpa using hc3
        refine Runs.skip ?_
        refine Runs.inBlock ?_
        refine Runs.evalE Ty_ok (by decide) fun k' hk'=>?_
        simp [h5, wrap_succ (show k < 4611686018427387904 by omega)]   -- R7
        apply hk'
        refine IH hc2 _ _ _ ⟨by simp[h0],by simp[h3],by simp,rfl,rfl,fun i hi=>?_⟩
        rcases Nat.lt_or_ge i k with h | h
        ·exact hall i h
        ·rw[show i=k by omega];exact hb3
      ·have hc2:¬ k<b.nodes.length:=by simpa using hc2
       have hke:k=b.nodes.length:=by omega
       subst hke
       have hnodes:=all_range_end hall
       have hctl:=ctl_all hall
       refine Runs.exit rfl ?_
       refine Runs.seq ?_
       refine Runs.seqE Ty_ok (by decide) fun k' hk'=>?_
       simp   -- R10
       apply hk'
       clear IH hall h5
       refine Runs.block (Runs.loopUp b.sites.length (fun k ρ' H2 n2=>ρ' 0 = .list false (sig.map Control.cells)∧ρ' 3 = .ptr (0,3) 1 0 0∧ρ' 6=int k∧H2=H'∧n2=n'∧∀ i (hi:i<b.sites.length),i<k→okParent sig b b.sites[i] b.nodes.length=true) ?_ ?_)
       ·exact⟨by simp[h0],by simp[h3],by simp,rfl,rfl,fun i hi h=>by omega⟩
       ·clear h0 h3
        rintro k ρ H2 n2 hk2 ⟨h0,h3,h6,rfl,rfl,hall⟩ IH
        refine Runs.seq ?_
        refine Runs.seqE Ty_ok (by decide) fun k' hk'=>?_
        simp [h3, h6, hm3']   -- R11
        apply hk'
        refine Runs.ite rfl (fun hc4 => ?_) (fun hc4 => ?_)   -- t67
        ·have hc4:k<b.sites.length:=by simpa using hc4
         refine Runs.skip ?_
         refine Runs.seq ?_
         refine Runs.block ?_
         refine Runs.seqD Ty_ok kindOp_ok draws (by decide) (by kernel_rfl) fun k' hk'=>?_
         simp [h0, h3, h6, hm3', hc4, intC]   -- R13
         refine RunDK.callA Ty_ok kindOp_ok (l2Under_ok sig b b.sites[k] b.nodes.length (s11 _ (List.getElem_mem hc4)) hr (Nat.le_refl _) hctl) e52 (.cons (ArgOk.encSig false sig) (.cons (ArgOk.encB false b) (.cons (.v _ _ _) (.cons (.v _ _ _) .nil)))) (by decide) rfl (by simp[h0,encSig,encB,Big.cells,encN,encI,encS,encW,intC]) ?_
         simp
         apply hk'
         refine Runs.ite rfl (fun hc5 => ?_) (fun hc5 => ?_)   -- t81
         ·have hb3:okParent sig b b.sites[k] b.nodes.length=false:=by simpa using hc5
          refine Runs.seqE Ty_ok (by decide) fun k' hk'=>?_
          simp   -- R14
          apply hk'
          exact Runs.ret Tryd.func22 (RetOk.one Tryd.results22) (no (by rw[goodB_eq,all_bad hc4 hb3,Bool.and_false];rfl) _ _)
         ·have hb3:okParent sig b b.sites[k] b.nodes.length=true:=by simpa using hc5
          refine Runs.skip ?_
          refine Runs.inBlock ?_
          refine Runs.evalE Ty_ok (by decide) fun k' hk'=>?_
          simp [h6, wrap_succ (show k < 4611686018427387904 by omega)]   -- R12
          apply hk'
          refine IH hc4 _ _ _ ⟨by simp[h0],by simp[h3],by simp,rfl,rfl,fun i hi hij=>?_⟩
          rcases Nat.lt_or_ge i k with h | h
          ·exact hall i hi h
          ·have:i=k:=by omega
           subst this
           exact hb3
        ·have hc4:¬ k<b.sites.length:=by simpa using hc4
         have hke:k=b.sites.length:=by omega
         subst hke
         have hsites:=all_end (l:=b.sites) (p:=fun p=>okParent sig b p b.nodes.length) fun i hi=>hall i hi hi
         refine Runs.exit rfl ?_
         refine Runs.seq ?_
         refine Runs.seqE Ty_ok (by decide) fun k' hk'=>?_
         simp   -- R15
         apply hk'
         clear IH hall h6
         refine Runs.block (Runs.loopUp b.inner.length (fun k ρ' H3 n3=>ρ' 3 = .ptr (0,3) 1 0 0∧ρ' 7=int k∧H3=H2∧n3=n2∧∀ i (hi:i<b.inner.length),i<k→okLink b b.inner[i].link=true) ?_ ?_)
         ·exact⟨by simp[h3],by simp,rfl,rfl,fun i hi h=>by omega⟩
         ·clear h0 h3
          rintro k ρ H3 n3 hk3 ⟨h3,h7,rfl,rfl,hall⟩ IH
          refine Runs.seq ?_
          refine Runs.seqE Ty_ok (by decide) fun k' hk'=>?_
          simp [h3, h7, hm3']   -- R16
          apply hk'
          refine Runs.ite rfl (fun hc6 => ?_) (fun hc6 => ?_)   -- t86
          ·have hc6:k<b.inner.length:=by simpa using hc6
           refine Runs.skip ?_
           refine Runs.seq ?_
           refine Runs.block ?_
           refine Runs.seqD Ty_ok kindOp_ok draws (by decide) (by kernel_rfl) fun k' hk'=>?_
           simp [h3, h7, hm3', hc6, Wire.cells]   -- R18
           refine RunDK.callA Ty_ok kindOp_ok (l2Link_ok b b.inner[k].link hed s5) e53 (.cons (ArgOk.encB false b) (.cons (.v _ _ _) .nil)) (by decide) rfl (by simp[encB,Big.cells,encN,encI,encS,encW,Wire.cells]) ?_
           simp
           apply hk'
           refine Runs.ite rfl (fun hc7 => ?_) (fun hc7 => ?_)   -- t97
           ·have hb3:okLink b b.inner[k].link=false:=by simpa using hc7
            refine Runs.seqE Ty_ok (by decide) fun k' hk'=>?_
            simp   -- R19
            apply hk'
            exact Runs.ret Tryd.func22 (RetOk.one Tryd.results22) (no (by rw[goodB_eq,all_bad (l:=b.inner) (p:=fun w=>okLink b w.link) hc6 hb3,Bool.and_false]) _ _)
           ·have hb3:okLink b b.inner[k].link=true:=by simpa using hc7
            refine Runs.skip ?_
            refine Runs.inBlock ?_
            refine Runs.evalE Ty_ok (by decide) fun k' hk'=>?_
            simp [h7, wrap_succ (show k < 4611686018427387904 by omega)]   -- R17
            apply hk'
            refine IH hc6 _ _ _ ⟨by simp[h3],by simp,rfl,rfl,fun i hi hij=>?_⟩
            rcases Nat.lt_or_ge i k with h | h
            ·exact hall i hi h
            ·have:i=k:=by omega
             subst this
             exact hb3
          ·have hc6:¬ k<b.inner.length:=by simpa using hc6
           have hke:k=b.inner.length:=by omega
           subst hke
           have hinner:=all_end (l:=b.inner) (p:=fun w=>okLink b w.link) fun i hi=>hall i hi hi
           refine Runs.exit rfl ?_
           refine Runs.seqE Ty_ok (by decide) fun k' hk'=>?_
           simp   -- R20
           apply hk'
           exact Runs.ret Tryd.func22 (RetOk.one Tryd.results22) (hQ _ _ _ _ (.v _ _ _) (by rw[goodB_eq,hpre,hnodes,hsites,hinner];rfl))
   simp [h3, hm3']   -- R3
   refine RunK.callA Ty_ok (l2Names_ok b.outer s5 s7) e49 (.cons (ArgOk.encS false b.outer) .nil) (by decide) (by decide) rfl (by simp[encS]) ?_
   rintro _ rfl
   cases p6:goodNames b.outer
   ·simp[guardOf]
    exact fin2 _ (by simp[h0]) (by simp[h3]) (by simp only[pre2,p6];simp)
   by_cases p7:(16:Int)<b.inner.length
   ·simp[h3,hm3',p7,guardOf]
    refine fin2 _ (by simp[h0]) (by simp[h3]) ?_
    have:goodNames (names b)=false:=by
     rw[goodNames_eq,show decide ((names b).length≤16)=false by simp[names];omega,Bool.false_and]
    simp only[pre2,this]
    simp
   simp[h3,hm3',p7,guardOf]
   refine RunK.callA Ty_ok (l2Inner_ok b s6) e50 (.cons (ArgOk.encB false b) .nil) (by decide) (by decide) rfl (by simp[encB,Big.cells,encN,encI,encS,encW]) ?_
   rintro _ rfl
   simp
   refine RunK.callA Ty_ok (l2Names_ok (names b) hnl hnn) e49 (.cons (ArgOk.encS true (names b)) .nil) (by decide) (by decide) rfl (by simp[encS]) ?_
   rintro _ rfl
   simp
   exact fin2 _ (by simp[h0]) (by simp[h3]) (by simp only[pre2,p6];simp)
 simp [h0]   -- R1
 refine RunK.callA Ty_ok (l2Sig_ok sig s1 s2) e47 (.cons (ArgOk.encSig false sig) .nil) (by decide) (by decide) rfl (by simp[encSig,h0]) ?_
 rintro _ rfl
 cases p1:goodSig sig
 ·simp[guardOf]
  exact fin _ (by simp[h0]) (by simp[h3]) (by simp only[pre1,p1];simp)
 simp[h3,hm3',guardOf]
 refine RunK.callA Ty_ok (l1In_ok b.roots 0 4) e48 (.cons (.v _ _ _) (.cons (.v _ _ _) (.cons (.v _ _ _) .nil))) (by decide) (by decide) rfl (by simp) ?_
 rintro _ rfl
 cases p2:within b.roots 0 4
 ·simp[guardOf]
  exact fin _ (by simp[h0]) (by simp[h3]) (by simp only[pre1,p2];simp)
 by_cases p3:(8:Int)<b.nodes.length
 ·simp[h3,hm3',p3,guardOf]
  exact fin _ (by simp[h0]) (by simp[h3]) (by simp only[pre1,show ¬ b.nodes.length≤8 by omega];simp)
 by_cases p4:(4:Int)<b.sites.length
 ·simp[h3,hm3',p3,p4,guardOf]
  exact fin _ (by simp[h0]) (by simp[h3]) (by simp only[pre1,show ¬ b.sites.length≤4 by omega];simp)
 simp[h3,hm3',p3,p4,guardOf]
 refine RunK.callA Ty_ok (l1In_ok b.edges 0 8) e48 (.cons (.v _ _ _) (.cons (.v _ _ _) (.cons (.v _ _ _) .nil))) (by decide) (by decide) rfl (by simp) ?_
 rintro _ rfl
 simp
 exact fin _ (by simp[h0]) (by simp[h3]) (by simp only[pre1,p1,p2,show b.nodes.length≤8 by omega,show b.sites.length≤4 by omega];simp)
end Go.Ab
/- Contracts of impl.ancestorsOf, spec.l2Above, slices.Index, slices.Contains and spec.l1Has. -/
namespace Go.Ab
open Go.Proofs
set_option linter.unusedSimpArgs false
theorem e20:Ent Tryd.prog 20:=Ent.of Tryd.func20 (by kernel_rfl) rfl
theorem e24:Ent Tryd.prog 24:=Ent.of Tryd.func24 (by kernel_rfl) rfl
theorem e46:Ent Tryd.prog 46:=Ent.of Tryd.func46 (by kernel_rfl) rfl
theorem e21:Ent Tryd.prog 21:=Ent.of Tryd.func21 (by kernel_rfl) rfl
theorem e25:Ent Tryd.prog 25:=Ent.of Tryd.func25 (by kernel_rfl) rfl
def parentB (b:Big) (i:Nat):Int:=(b.nodes.getD i default).parent
def aboveF (b:Big):Nat→Int→List Int
 | 0,_=>[]
 | d+1,node=>if node<0 then [] else parentB b node.toNat::aboveF b d (parentB b node.toNat)
def above (b:Big) (node:Int):List Int:=aboveF b (b.nodes.length+1) node
def Down (b:Big):Prop:=b.nodes.length≤8∧∀ i,i<b.nodes.length→parentB b i<i
theorem goodB_down {sig:Sig} {b:Big} (h:goodB sig b=true):Down b:=by
 rw[goodB_eq] at h
 simp only[goodPre,Bool.and_eq_true,List.all_eq_true,List.mem_range,decide_eq_true_eq] at h
 obtain⟨⟨⟨hp,hn⟩,_⟩,_⟩:=h
 refine⟨by have:=hp.1.1.1.1.2;exact this,fun i hi=>?_⟩
 have:=hn i hi
 simp only[okNodeB,okParent,Bool.and_eq_true] at this
 have h2:=this.1.1.2
 unfold parentB
 split at h2
 ·omega
 ·simp only[Bool.and_eq_true,decide_eq_true_eq] at h2
  exact h2.1
theorem aboveF_len (b:Big):∀ d node,(aboveF b d node).length≤d
 | 0,_=>by simp[aboveF]
 | d+1,node=>by
  rw[aboveF]
  split
  ·simp
  ·have:=aboveF_len b d (parentB b node.toNat)
   simp
   omega
theorem ancestorsOf_ok {b:Big} (hd:Down b) (node:Int) (hn:node<b.nodes.length):OwnC Tryd.prog 20 [encB false b,int node] 1 (fun r=>r=encI true (above b node)):=by
 obtain⟨hd8,hd⟩:=hd
 refine OwnC.of Tryd.func20 rfl Tryd.ntmps20 (by simp) fun Q hQ=>?_
 refine Runs.seqE Ty_ok (by decide) fun k' hk'=>?_
 simp [encB, Big.cells]   -- R0
 apply hk'
 refine Runs.seqE Ty_ok (by decide) fun k' hk'=>?_
 simp   -- R1
 apply hk'
 refine Runs.seq ?_
 refine Runs.block (Runs.loopM (fun m ρ H n=>ρ 2 = .ptr (0,2) 1 0 0∧H (0,2)=some ⟨6,[b.cells false]⟩∧∃ (cur:Int) (acc:List Int),ρ 1=int cur∧cur+1≤m∧cur<b.nodes.length∧acc++aboveF b m cur=above b node∧acc.length+m≤b.nodes.length+1 ∧
  ρ 5 = .arr (1,6) acc.length 0 acc.length∧H (1,6)=some ⟨1,acc.map intC⟩) (b.nodes.length+1) ?_ ?_)
 ·exact⟨by simp,by simp[Big.cells],node,[],by simp,by omega,hn,by simp[above],by simp,by simp,by simp⟩
 ·rintro m ρ H n ⟨h2,hm2,cur,acc,h1,hcm,hcl,htot,hal,h5,hm6⟩ IH
  have hm2':=hm2
  simp only[Big.cells,encN] at hm2'
  refine Runs.seq ?_
  refine Runs.seqE Ty_ok (by decide) fun k' hk'=>?_
  simp [h1]   -- R2
  apply hk'
  refine Runs.ite rfl (fun hc1 => ?_) (fun hc1 => ?_)   -- t8
  ·have hc1:0≤cur:=by simpa using hc1
   obtain⟨q,rfl⟩:∃ q:Nat,cur=q:=⟨cur.toNat,by omega⟩
   have hq:q<b.nodes.length:=by omega
   obtain⟨m',rfl⟩:∃ m',m=m'+1:=⟨m - 1,by omega⟩
   have hpd:=hd q hq
   have hpq:parentB b q=b.nodes[q].parent:=by simp[parentB,hq]
   refine Runs.skip ?_
   refine Runs.block ?_
   refine Runs.seqE Ty_ok (by decide) fun k' hk'=>?_
   simp [h1, h2, hm2', hq, GNode.cells]   -- R3
   apply hk'
   refine Runs.evalE Ty_ok (by decide) fun k' hk'=>?_
   have hlen:(acc.map intC).length=acc.length:=by simp
   generalize hels:acc.map intC=els at hm6 hlen
   simp [h5, hm6, hlen, live, show acc.length ≤ 1073741823 by omega]   -- R4
   apply hk'
   refine Runs.inBlock ?_
   refine IH m' _ _ _ (by omega) ⟨by simp[h2],by simp[hm2],b.nodes[q].parent,acc++[b.nodes[q].parent],by simp,by omega,by omega,?_,by simp;omega,by simp,by simp[← hels,intC]⟩
   rw[← htot,aboveF,if_neg (by omega),Int.toNat_natCast,hpq]
   simp
  ·have hc1:cur<0:=by
    have:¬ 0≤cur:=by simpa using hc1
    omega
   have hacc:acc=above b node:=by
    rw[← htot]
    cases m with
    | zero=>simp[aboveF]
    | succ m=>rw[aboveF,if_pos hc1];simp
   refine Runs.exit rfl ?_
   refine Runs.seqE Ty_ok (by decide) fun k' hk'=>?_
   simp [h5]   -- R5
   apply hk'
   rw[hacc] at hm6
   refine Runs.ret Tryd.func20 (RetOk.one Tryd.results20) (hQ _ _ _ _ [(1,6)] ?_ rfl)
   simp only[Env.put]
   simp[hacc,encI]
   exact Own.arrF hm6 (by simp) (ints_flat _)
theorem l2Above_ok {b:Big} (hd:Down b) (node:Int) (hn:node<b.nodes.length):OwnC Tryd.prog 24 [encB false b,int node] 1 (fun r=>r=encI true (above b node)):=by
 obtain⟨hd8,hd⟩:=hd
 refine OwnC.of Tryd.func24 rfl Tryd.ntmps24 (by simp) fun Q hQ=>?_
 refine Runs.seqE Ty_ok (by decide) fun k' hk'=>?_
 simp [encB, Big.cells]   -- R0
 apply hk'
 refine Runs.seqE Ty_ok (by decide) fun k' hk'=>?_
 simp   -- R1
 apply hk'
 refine Runs.seq ?_
 refine Runs.block (Runs.loopM (fun m ρ H n=>ρ 2 = .ptr (0,2) 1 0 0∧H (0,2)=some ⟨6,[b.cells false]⟩∧∃ (cur:Int) (acc:List Int),ρ 1=int cur∧cur+1≤m∧cur<b.nodes.length∧acc++aboveF b m cur=above b node∧acc.length+m≤b.nodes.length+1 ∧
  ρ 5 = .arr (1,6) acc.length 0 acc.length∧H (1,6)=some ⟨1,acc.map intC⟩) (b.nodes.length+1) ?_ ?_)
 ·exact⟨by simp,by simp[Big.cells],node,[],by simp,by omega,hn,by simp[above],by simp,by simp,by simp⟩
 ·rintro m ρ H n ⟨h2,hm2,cur,acc,h1,hcm,hcl,htot,hal,h5,hm6⟩ IH
  have hm2':=hm2
  simp only[Big.cells,encN] at hm2'
  refine Runs.seq ?_
  refine Runs.seqE Ty_ok (by decide) fun k' hk'=>?_
  simp [h1]   -- R2
  apply hk'
  refine Runs.ite rfl (fun hc1 => ?_) (fun hc1 => ?_)   -- t8
  ·have hc1:0≤cur:=by simpa using hc1
   obtain⟨q,rfl⟩:∃ q:Nat,cur=q:=⟨cur.toNat,by omega⟩
   have hq:q<b.nodes.length:=by omega
   obtain⟨m',rfl⟩:∃ m',m=m'+1:=⟨m - 1,by omega⟩
   have hpd:=hd q hq
   have hpq:parentB b q=b.nodes[q].parent:=by simp[parentB,hq]
   refine Runs.skip ?_
   refine Runs.block ?_
   refine Runs.seqE Ty_ok (by decide) fun k' hk'=>?_
   simp [h1, h2, hm2', hq, GNode.cells]   -- R3
   apply hk'
   refine Runs.evalE Ty_ok (by decide) fun k' hk'=>?_
   have hlen:(acc.map intC).length=acc.length:=by simp
   generalize hels:acc.map intC=els at hm6 hlen
   simp [h5, hm6, hlen, live, show acc.length ≤ 1073741823 by omega]   -- R4
   apply hk'
   refine Runs.inBlock ?_
   refine IH m' _ _ _ (by omega) ⟨by simp[h2],by simp[hm2],b.nodes[q].parent,acc++[b.nodes[q].parent],by simp,by omega,by omega,?_,by simp;omega,by simp,by simp[← hels,intC]⟩
   rw[← htot,aboveF,if_neg (by omega),Int.toNat_natCast,hpq]
   simp
  ·have hc1:cur<0:=by
    have:¬ 0≤cur:=by simpa using hc1
    omega
   have hacc:acc=above b node:=by
    rw[← htot]
    cases m with
    | zero=>simp[aboveF]
    | succ m=>rw[aboveF,if_pos hc1];simp
   refine Runs.exit rfl ?_
   refine Runs.seqE Ty_ok (by decide) fun k' hk'=>?_
   simp [h5]   -- R5
   apply hk'
   rw[hacc] at hm6
   refine Runs.ret Tryd.func24 (RetOk.one Tryd.results24) (hQ _ _ _ _ [(1,6)] ?_ rfl)
   simp only[Env.put]
   simp[hacc,encI]
   exact Own.arrF hm6 (by simp) (ints_flat _)
theorem index_ok (t:Bool) (l:List Int) (x:Int) (hl:l.length≤1048576):PureC Tryd.prog 46 [encI t l,int x] (fun r=>r=int (idxF l (fun y=>x == y))):=by
 refine PureC.of Tryd.func46 rfl Tryd.ntmps46 (by simp) fun Q hQ=>?_
 refine Runs.seqE Ty_ok (by decide) fun k' hk'=>?_
 simp [encI]   -- R0
 apply hk'
 refine Runs.seq ?_
 refine Runs.seqE Ty_ok (by decide) fun k' hk'=>?_
 simp   -- R1
 apply hk'
 refine Runs.block (Runs.loopUp l.length (fun k ρ H' n'=>ρ 0 = .list t (l.map intC)∧ρ 1=int x∧ρ 7=int l.length∧ρ 8=int k∧∀ i (h:i<l.length),i<k→(x == l[i])=false) ?_ ?_)
 ·simp
 ·rintro k ρ H' n' hk ⟨h0,h1,h7,h8,hno⟩ IH
  refine Runs.seqE Ty_ok (by decide) fun k' hk'=>?_
  simp [h7, h8]   -- R2
  apply hk'
  refine Runs.seq ?_
  refine Runs.ite rfl (fun hc1 => ?_) (fun hc1 => ?_)   -- t9
  ·have hc1:k<l.length:=by simpa using hc1
   refine Runs.skip ?_
   refine Runs.seq ?_
   refine Runs.block ?_
   refine Runs.seqE Ty_ok (by decide) fun k' hk'=>?_
   simp [h8]   -- R3
   apply hk'
   refine Runs.seqE Ty_ok (by decide) fun k' hk'=>?_
   simp [h0, h1, hc1, intC]   -- R4
   apply hk'
   refine Runs.ite rfl (fun hc2 => ?_) (fun hc2 => ?_)   -- t16
   ·have hc2:(x == l[k])=true:=by simpa using hc2
    refine Runs.seqE Ty_ok (by decide) fun k' hk'=>?_
    simp   -- R5
    apply hk'
    refine Runs.ret Tryd.func46 (RetOk.one Tryd.results46) (hQ _ _ _ _ (.v _ _ _) ?_)
    simp[idxF_at (p:=fun y=>x == y) hc1 hc2 hno]
   ·have hc2:(x == l[k])=false:=by simpa using hc2
    refine Runs.skip ?_
    refine Runs.inBlock ?_
    refine Runs.evalE Ty_ok (by decide) fun k' hk'=>?_
    simp [h8, wrap_succ (show k < 4611686018427387904 by omega)]   -- R6
    apply hk'
    refine IH hc1 _ _ _ ⟨by simp[h0,intC],by simp[h1],by simp[h7],by simp,fun i h hi=>?_⟩
    rcases Nat.lt_or_ge i k with hik | hik
    ·exact hno i h hik
    ·have:i=k:=by omega
     subst this
     exact hc2
  ·have hc1:¬ k<l.length:=by simpa using hc1
   have hke:k=l.length:=by omega
   subst hke
   refine Runs.exit rfl ?_
   refine Runs.seqE Ty_ok (by decide) fun k' hk'=>?_
   simp   -- R7
   apply hk'
   refine Runs.ret Tryd.func46 (RetOk.one Tryd.results46) (hQ _ _ _ _ (.v _ _ _) ?_)
   simp[idxF_no (p:=fun y=>x == y) fun i h=>hno i h h]
theorem contains_ok (l:List Int) (x:Int) (hl:l.length≤1048576):PureC Tryd.prog 21 [encI false l,int x] (fun r=>r=bool (l.any (fun y=>x == y))):=by
 refine PureC.of Tryd.func21 rfl Tryd.ntmps21 (by simp) fun Q hQ=>?_
 refine Runs.seqE Ty_ok (by decide) fun k' hk'=>?_
 simp [encI]   -- R0
 apply hk'
 refine Runs.seqE Ty_ok (by decide) fun k' hk'=>?_
 simp   -- R1
 refine RunK.callA Ty_ok (index_ok false l x hl) e46 (.cons (ArgOk.encI false l) (.cons (.v _ _ _) .nil)) (by decide) (by decide) rfl (by simp[encI]) ?_
 rintro _ rfl
 simp
 apply hk'
 refine Runs.ret Tryd.func21 (RetOk.one Tryd.results21) (hQ _ _ _ _ (.v _ _ _) ?_)
 have:=idxF_any l (fun y=>x == y)
 simp only[Env.put]
 simp[this]
theorem l1Has_ok (l:List Int) (x:Int) (hl:l.length≤1048576):PureC Tryd.prog 25 [encI false l,int x] (fun r=>r=bool (l.any (fun y=>x == y))):=by
 refine PureC.of Tryd.func25 rfl Tryd.ntmps25 (by simp) fun Q hQ=>?_
 refine Runs.seqE Ty_ok (by decide) fun k' hk'=>?_
 simp [encI]   -- R0
 apply hk'
 refine Runs.seq ?_
 refine Runs.seqE Ty_ok (by decide) fun k' hk'=>?_
 simp   -- R1
 apply hk'
 refine Runs.block (Runs.loopUp l.length (fun k ρ H' n'=>ρ 0 = .list false (l.map intC)∧ρ 1=int x∧ρ 5=int k∧∀ i (h:i<l.length),i<k→¬ l[i]=x) ?_ ?_)
 ·simp
 ·rintro k ρ H' n' hk ⟨h0,h1,h5,hno⟩ IH
  refine Runs.seq ?_
  refine Runs.seqE Ty_ok (by decide) fun k' hk'=>?_
  simp [h0, h5]   -- R2
  apply hk'
  refine Runs.ite rfl (fun hc1 => ?_) (fun hc1 => ?_)   -- t9
  ·have hc1:k<l.length:=by simpa using hc1
   refine Runs.skip ?_
   refine Runs.seq ?_
   refine Runs.block ?_
   refine Runs.seqE Ty_ok (by decide) fun k' hk'=>?_
   simp [h0, h1, h5, hc1, intC]   -- R4
   apply hk'
   refine Runs.ite rfl (fun hc2 => ?_) (fun hc2 => ?_)   -- t17
   ·have hc2:l[k]=x:=by simpa using hc2
    refine Runs.seqE Ty_ok (by decide) fun k' hk'=>?_
    simp   -- R5
    apply hk'
    refine Runs.ret Tryd.func25 (RetOk.one Tryd.results25) (hQ _ _ _ _ (.v _ _ _) ?_)
    have:l.any (fun y=>x == y)=true:=by
     rw[List.any_eq_true]
     exact⟨l[k],List.getElem_mem hc1,by simp[hc2]⟩
    rw[this]
    try rfl
   ·have hc2:¬ l[k]=x:=by simpa using hc2
    refine Runs.skip ?_
    refine Runs.inBlock ?_
    refine Runs.evalE Ty_ok (by decide) fun k' hk'=>?_
    simp [h5, wrap_succ (show k < 4611686018427387904 by omega)]   -- R3
    apply hk'
    refine IH hc1 _ _ _ ⟨by simp[h0,intC],by simp[h1],by simp,fun i h hi=>?_⟩
    rcases Nat.lt_or_ge i k with hik | hik
    ·exact hno i h hik
    ·have:i=k:=by omega
     subst this
     exact hc2
  ·have hc1:¬ k<l.length:=by simpa using hc1
   have hke:k=l.length:=by omega
   subst hke
   refine Runs.exit rfl ?_
   refine Runs.seqE Ty_ok (by decide) fun k' hk'=>?_
   simp   -- R6
   apply hk'
   refine Runs.ret Tryd.func25 (RetOk.one Tryd.results25) (hQ _ _ _ _ (.v _ _ _) ?_)
   have:l.any (fun y=>x == y)=false:=by
    rw[List.any_eq_false]
    intro y hy
    obtain⟨i,hi,rfl⟩:=List.getElem_of_mem hy
    have:=hno i hi hi
    simpa using fun h=>this h.symm
   rw[this]
   try rfl
end Go.Ab
