/- Merged texts (6 of 12) of the proof that ends in Amy: Q aa Ga Sn Vp W Wb Wc aj Yb Co Cg Cp Cq Uj Uk Lm Mp Pa Ca ag. -/
import Derived.Test.YtfjladalegioaaaGreatDoorAbQam5
import Derived.Lib.Join
import Derived.Laws.BytesString
open Go.Proofs.Tryz
set_option linter.unusedSectionVars false
set_option linter.unusedSimpArgs false
set_option linter.unusedVariables false
namespace Go.Ab
open Go.Proofs
theorem e34:aV prog 34:=aV.of func34 (by kernel_rfl) rfl
theorem e47:aV prog 47:=aV.of func47 (by kernel_rfl) rfl
theorem e49:aV prog 49:=aV.of func49 (by kernel_rfl) rfl
theorem e50:aV prog 50:=aV.of func50 (by kernel_rfl) rfl
theorem e44:aV prog 44:=aV.of func44 (by kernel_rfl) rfl
theorem e71:aV prog 71:=aV.of func71 (by kernel_rfl) rfl
def bD (l:List aH):aH:=if l=[] then [48] else Lib.join l [124]
theorem js (l:List aH) (hl:l.length<=1073741824) (hj:(Lib.join l [124]).length<=140737488355328):aA prog 50 [cg false l] (fun r=>r=str (bD l)):=by
 refine aA.of func50 rfl ntmps50 (by simp) fun Q hQ=>?_
 refine zE fun _ V=>?_
 simp;refine V _ _ _ (I.seq (zE fun _ V=>?_));simp[cg];refine V _ _ _ (I.ite rfl (fun h=>?_) (fun h=>?_))
 ·simp at h;refine zE fun _ V=>?_
  simp;refine V _ _ _ (I.ret func50 (aG.one results50) (hQ _ _ _ _ (.v _ _ _) ?_));simp[bD,h]
 ·simp at h;refine I.skip (zE fun _ V=>?_);simp[cg];refine zA (vU l [124] (by omega) hj) e71 (.cons (.bt (fr:=false) (by simp)) (.cons (.v _ _ _) .nil)) (by simp) ?_;rintro _ rfl;simp;refine V _ _ _ (I.ret func50 (aG.one results50) (hQ _ _ _ _ (.v _ _ _) ?_));simp[bD,h]
def bb (p:aw):Nat->Int->aH
 | 0,_=>[]
 | d+1,parent=>bD ((aC p parent p.length).map fun k=>aO (p.getD k default) (bb p d k))
structure Valid (p:aw):Prop where
 len:p.length<=8
 kind:∀ i,i<p.length->0<=(p.getD i default).kind/\(p.getD i default).kind<=3
 name:∀ i,i<p.length->(p.getD i default).name.length<=4
 up:∀ i,i<p.length -> -1<=(p.getD i default).parent/\(p.getD i default).parent<i
theorem cz (x:J) (s:aH) (hn:x.name.length<=4):(aO x s).length<=s.length+12:=by
 have:=l9 (x.kind - 1).toNat;unfold aO
 split<;>simp only[List.length_append,List.length_cons,List.length_nil]<;>omega
theorem fD (l:List aH) (sep:aH) (B:Nat) (h:∀ s ∈ l,s.length<=B):(Lib.join l sep).length<=l.length * (B+sep.length):=by
 induction l with
 | nil=>simp[Lib.join]
 | cons a l ih=>
  have h1:=h a (by simp);have h2:=ih fun s hs=>h s (by simp[hs])
  have h3:(Lib.join (a::l) sep).length<=a.length+sep.length+(Lib.join l sep).length:=by
   cases l with
   | nil=>simp[Lib.join]
   | cons b l=>simp[Lib.join,List.intercalate];omega
  have:(a::l).length * (B+sep.length)=l.length * (B+sep.length)+(B+sep.length):=by rw[List.length_cons,Nat.add_mul,Nat.one_mul]
  omega
theorem hP {p:aw} {parent:Int} {n k:Nat} (h:k ∈ aC p parent n):k<n/\(p.getD k default).parent=parent:=by
 simp only[aC,List.mem_filter,List.mem_range,beq_iff_eq] at h;exact h
theorem dN {p:aw} (hp:Valid p):∀ (d:Nat) (parent:Int),(bb p d parent).length+15<=16 * 8 ^ d
 | 0,_=>by simp[bb]
 | d+1,parent=>by
  simp only[bb];unfold bD;have h8:8 ^ (d+1)=8 * 8 ^ d:=by rw[Nat.pow_succ,Nat.mul_comm]
  have h1:0<8 ^ d:=Nat.pos_of_ne_zero (by simp)
  split
  ·simp;omega
  ·have:=fD ((aC p parent p.length).map fun k=>aO (p.getD k default) (bb p d k)) [124] (16 * 8 ^ d - 15+12) (fun s hs=>by
    simp only[List.mem_map] at hs;obtain⟨k,hk,rfl⟩:=hs;have h1:=cz (p.getD k default) (bb p d k) (hp.name k (hP hk).1);have h2:=dN hp d k;omega)
   have hl:=ic p parent p.length;have h9:=hp.len;simp only[List.length_map,List.length_singleton] at this;have hm:(aC p parent p.length).length * (16 * 8 ^ d - 15+12+1)<=8 * (16 * 8 ^ d - 15+12+1):=Nat.mul_le_mul_right _ (by omega);omega
theorem jE (t:Bool) (p:aw):old (bq t p)=bq false p:=by
 simp[bq,kP,eS,J.cells,old_v]
theorem uV (t:Bool) (p:aw):gH (bq t p):=by
 simp[bq,J.cells]
theorem az.bq {H:au} {n:Nat} (t:Bool) (p:aw):az H n (bq t p) (bq false p):=az.rM (uV t p) (jE t p)
theorem az.node {H:au} {n:Nat} (x:J):az H n (.agg x.cells) (.agg x.cells):=az.aggF (by simp[J.cells])
theorem j9 {p:aw} (hp:Valid p):∀ (d:Nat) (parent:Int),-1<=parent->parent<p.length->(p.length:Int) - parent<=d->d<=9 ->
  aA prog 34 [bq false p,int parent] (fun r=>r=str (bb p d parent))
 | 0,parent,_,h1,h2,_=>by omega
 | d+1,parent,h0,h1,h2,hd=>by
  have hp8:=hp.len;refine aA.of func34 rfl ntmps34 (by simp) fun Q hQ=>?_
  refine zE fun _ V=>?_
  simp [bq];apply V;refine zE fun _ V=>?_
  simp;apply V;refine zS fun _ V=>?_
  simp;refine zA (jO p parent (by omega)) e47 (.cons (az.bq false p) (.cons (.v _ _ _) .nil)) (by simp[bq]) ?_;rintro _ rfl;simp[kO];apply V;have hkl:=ic p parent p.length;refine I.block (I.dQ (aC p parent p.length).length (fun k O H n=>O 2 = .ptr (0,2) 1 0 0/\H (0,2)=some ⟨1,[[.list false (p.map J.cells)]]⟩/\O 11 = .list true ((aC p parent p.length).map fun (i:Nat)=>[int (i:Int)])/\O 12=int (aC p parent p.length).length/\O 13=int k/\O 5 = .arr (1,8) k 0 k/\H (1,8)=some ⟨1,((aC p parent p.length).take k).map fun i=>[str (aO (p.getD i default) (bb p d i))]⟩) ?_ ?_)
  ·simp
  ·rintro k O H n hk ⟨h2,hH2,h11,h12,h13,h5,hH⟩ IH;refine zE fun _ V=>?_
   simp [h11, h12, h13];apply V;apply I.seq;refine I.ite rfl (fun hc1 => ?_) (fun hc1 => ?_)
   ·simp at hc1;apply zK;apply I.block;refine zE fun _ V=>?_
    simp [h11, h12, h13, hc1];apply V;have him:(aC p parent p.length)[k] ∈ aC p parent p.length:=List.getElem_mem hc1;have hsk:(aC p parent p.length).take (k+1)=(aC p parent p.length).take k++[(aC p parent p.length)[k]]:=List.take_succ_eq_append_getElem hc1;generalize (aC p parent p.length)[k]=i at him hsk ⊢;obtain⟨hilt,hip⟩:=hP him;have hup:=hp.up i hilt;have hkd:=hp.kind i hilt;have hnm:=hp.name i hilt;have hpd:8 ^ d<=8 ^ 8:=Nat.pow_le_pow_right (by omega) (by omega);have htl:=dN hp d i;refine I.lx aB aD cf (by decide) (by kernel_rfl) fun _ V=>?_
    simp [h11, h12, h13, h2, hH2, h5, hH, hc1, hilt, J.cells];refine bw.c8 aB aD (j9 hp d i (by omega) (by omega) (by omega) (by omega)) e34 (.cons (az.bq false p) (.cons (.v _ _ _) .nil)) (by decide) rfl (by simp[bq,J.cells]) ?_;simp;refine bw.c8 aB aD (kt (p.getD i default) (bb p d i) hkd (by omega) (by omega)) e49 (.cons (az.node _) (.cons (.v _ _ _) .nil)) (by decide) rfl (by simp[J.cells,hilt]) ?_;simp[h5,hH,show k<=1073741823 by omega,Nat.min_eq_left hk];refine V _ _ _ (I.inBlock (zF fun _ V=>?_));simp[h13,bY (show k<4611686018427387904 by omega)];refine V _ _ _ (IH hc1 _ _ _ ?_);simp[h2,h11,h12,hH2,hsk]
   ·simp at hc1;have hke:k=(aC p parent p.length).length:=by omega
    subst hke;refine I.exit rfl (zE fun _ V=>?_);simp[h5];have hjl:=fD ((aC p parent p.length).map fun k=>aO (p.getD k default) (bb p d k)) [124] (16 * 8 ^ d - 15+12) (fun s hs=>by
     simp only[List.mem_map] at hs;obtain⟨k,hk,rfl⟩:=hs;have h1:=cz (p.getD k default) (bb p d k) (hp.name k (hP hk).1);have h2:=dN hp d k;omega)
    simp only[List.length_map,List.length_singleton] at hjl;have hm:(aC p parent p.length).length * (16 * 8 ^ d - 15+12+1)<=8 * (16 * 8 ^ d - 15+12+1):=Nat.mul_le_mul_right _ (by omega);have hpd:8 ^ d<=8 ^ 8:=Nat.pow_le_pow_right (by omega) (by omega);refine zA (js ((aC p parent p.length).map fun k=>aO (p.getD k default) (bb p d k)) (by simp;omega) (by omega)) e50 (.cons (.pe (g:=(aC p parent p.length).length) (id:=(1,8)) (sz:=1) (by simp[live,hH]) (by simp)) .nil) (by simp[h5]) ?_;rintro _ rfl;simp;refine V _ _ _ (I.ret func34 (aG.one results34) (hQ _ _ _ _ (.v _ _ _) ?_));simp[bb]
end Go.Ab
namespace Go.Ab
open Go.Proofs
theorem e17:aV prog 17:=aV.of func17 (by kernel_rfl) rfl
theorem e31:aV prog 31:=aV.of func31 (by kernel_rfl) rfl
def lower (c:UInt8):Bool:=decide (97<=c.toNat) && decide (c.toNat<=122)
def ef (s:aH):Bool:=within s.length 1 4 && s.all lower
def alpha:aH:=[97,98,99,100,101,102,103,104,105,106,107,108,109,110,111,112,113,114,115,116,117,118,119,120,121,122]
set_option maxRecDepth 10000 in
theorem kl (c:UInt8):alpha.contains c=lower c:=by
 have h:∀ n:Fin 256,alpha.contains (UInt8.ofNat n.val)=lower (UInt8.ofNat n.val):=by decide
 have:=h ⟨c.toNat,c.toNat_lt⟩;simpa using this
theorem dropWhile_nil {q:UInt8->Bool}:∀ l:aH,l.dropWhile q=[]↔l.all q=true
 | []=>by simp
 | a::l=>by
  rw[List.dropWhile_cons];cases h:q a<;>simp[h,dropWhile_nil l]
theorem gJ {q:UInt8->Bool}:∀ l:aH,(l.dropWhile q).reverse.all q=true->l.all q=true
 | [],_=>by simp
 | a::l,h=>by
  rw[List.dropWhile_cons] at h;cases hq:q a
  ·simp[hq] at h
  ·simp only[hq,if_true] at h;have:=gJ l h;simp only[List.all_cons,hq,this,Bool.and_self]
theorem sQ (s:aH):(Lib.trimS s alpha=[])↔s.all lower=true:=by
 have he:(fun c=>alpha.contains c)=lower:=funext kl;unfold Lib.trimS Lib.trimLeftS Lib.trimRightS;rw[he,dropWhile_nil]
 constructor
 ·intro h;have:=gJ _ h;simpa using this
 ·intro h;have h2:s.reverse.dropWhile lower=[]:=by rw[dropWhile_nil];simpa using h
  rw[h2]
  rfl
theorem sI (s:aH) (hs:s.length<=4294967296):aA prog 31 [str s] (fun r=>r=bool (ef s)):=by
 refine aA.of func31 rfl ntmps31 (by simp) fun Q hQ=>?_
 refine zE fun _ V=>?_
 simp;apply V;refine zE fun _ V=>?_
 simp;refine zA (fI s.length 1 4) e30 (.cons (.v _ _ _) (.cons (.v _ _ _) (.cons (.v _ _ _) .nil))) (by simp) ?_;rintro _ rfl;cases hw:within s.length 1 4
 ·simp[hw];apply V;exact I.ret func31 (aG.one results31) (hQ _ _ _ _ (.v _ _ _) (by simp[ef,hw]))
 ·simp[hw];refine zA (wc s alpha (by omega) (by decide) (by decide)) e44 (.cons (.v _ _ _) (.cons (.v _ _ _) .nil)) (by simp[alpha]) ?_;rintro _ rfl;simp[hw];apply V;refine I.ret func31 (aG.one results31) (hQ _ _ _ _ (.v _ _ _) ?_);have:=sQ s;cases h:s.all lower<;>simp[h] at this<;>simp[ef,hw,h,this]
def dw (p:aw) (i:Nat):Bool:=within (p.getD i default).kind 0 3 && ef (p.getD i default).name && within (p.getD i default).parent (-1) ((i:Int) - 1)
def dm (p:aw):Bool:=(List.range p.length).all (dw p) && decide (p.length<=8)
theorem dP {p:aw} {k:Nat} (hk:k<p.length) (h:dw p k=false):dm p=false:=by
 have:(List.range p.length).all (dw p)=false:=by
  rw[List.all_eq_false];exact⟨k,List.mem_range.2 hk,by simp[h]⟩
 simp[dm,this]
theorem nb {p:aw} (h:∀ i,i<p.length->dw p i=true):dm p=decide (p.length<=8):=by
 have:(List.range p.length).all (dw p)=true:=by
  rw[List.all_eq_true];exact fun i hi=>h i (List.mem_range.1 hi)
 simp[dm,this]
theorem jC (p:aw) (hp:p.length<=1048576) (hn:∀ i,i<p.length->(p.getD i default).name.length<=4294967296):aA prog 17 [bq false p] (fun r=>r=bool (dm p)):=by
 refine aA.of func17 rfl ntmps17 (by simp) fun Q hQ=>?_
 refine zE fun _ V=>?_
 simp [bq];apply V;refine zS fun _ V=>?_
 simp;apply V;refine I.block (I.dQ p.length (fun k O H n=>O 1 = .ptr (0,1) 1 0 0/\H (0,1)=some ⟨1,[[.list false (p.map J.cells)]]⟩/\O 6 = .list false (p.map J.cells)/\O 7=int p.length/\O 8=int k/\∀ i,i<k->dw p i=true) ?_ ?_)
 ·simp
 ·rintro k O H n hk ⟨h1,hH,h6,h7,h8,hall⟩ IH;refine zE fun _ V=>?_
  simp [h7, h8];apply V;apply I.seq;refine I.ite rfl (fun hc1 => ?_) (fun hc1 => ?_)
  ·simp at hc1;apply zK;apply I.block;refine zE fun _ V=>?_
   simp [h6, h8, hc1, J.cells];apply V;refine zE fun _ V=>?_
   simp;have hx:p.getD k default=p[k]:=by simp[hc1]
   have hok:dw p k=(within p[k].kind 0 3 && ef p[k].name && within p[k].parent (-1) ((k:Int) - 1)):=by rw[dw,hx]
   have hnm:=hn k hc1;rw[hx] at hnm;refine zA (fI p[k].kind 0 3) e30 (.cons (.v _ _ _) (.cons (.v _ _ _) (.cons (.v _ _ _) .nil))) (by simp) ?_;rintro _ rfl;cases hw:within p[k].kind 0 3
   ·simp[hw];apply V;refine I.ite rfl (fun _=>?_) (fun h=>by simp at h);refine zE fun _ V=>?_
    simp;apply V;refine I.ret func17 (aG.one results17) (hQ _ _ _ _ (.v _ _ _) ?_);rw[dP hc1 (by rw[hok];simp[hw])]
   ·simp[hw];refine zA (sI p[k].name hnm) e31 (.cons (.v _ _ _) .nil) (by simp) ?_;rintro _ rfl;cases hs:ef p[k].name
    ·simp[hs];apply V;refine I.ite rfl (fun _=>?_) (fun h=>by simp at h);refine zE fun _ V=>?_
     simp;apply V;refine I.ret func17 (aG.one results17) (hQ _ _ _ _ (.v _ _ _) ?_);rw[dP hc1 (by rw[hok];simp[hw,hs])]
    ·simp[hs,show -9223372036854775808<=(k:Int) - 1 by omega,show (k:Int) - 1<=9223372036854775807 by omega];refine zA (fI p[k].parent (-1) ((k:Int) - 1)) e30 (.cons (.v _ _ _) (.cons (.v _ _ _) (.cons (.v _ _ _) .nil))) (by simp) ?_;rintro _ rfl;cases hu:within p[k].parent (-1) ((k:Int) - 1)
     ·simp[hu];apply V;refine I.ite rfl (fun _=>?_) (fun h=>by simp at h);refine zE fun _ V=>?_
      simp;apply V;refine I.ret func17 (aG.one results17) (hQ _ _ _ _ (.v _ _ _) ?_);rw[dP hc1 (by rw[hok];simp[hw,hs,hu])]
     ·simp[hu];apply V;refine I.ite rfl (fun h=>by simp at h) (fun _=>?_);apply I.skip;refine zI fun _ V=>?_
      simp [h8, bY (show k < 4611686018427387904 by omega)];apply V;refine IH hc1 _ _ _ ?_;simp[h1,hH,h6,h7];intro i hi
      by_cases hik:i=k
      ·subst hik;rw[hok];simp[hw,hs,hu]
      ·exact hall i (by omega)
  ·simp at hc1;refine I.exit rfl ?_;refine zE fun _ V=>?_
   simp [h1, hH];apply V;refine I.ret func17 (aG.one results17) (hQ _ _ _ _ (.v _ _ _) ?_);rw[nb (by rwa [show k=p.length by omega] at hall)];simp;omega
theorem ca {p:aw} (h:dm p=true):Valid p:=by
 simp only[dm,Bool.and_eq_true,decide_eq_true_eq,List.all_eq_true,List.mem_range] at h;obtain⟨h1,h2⟩:=h;have h3:∀ i,i<p.length->(0<=(p.getD i default).kind/\(p.getD i default).kind<=3)/\((p.getD i default).name.length<=4)/\(-1<=(p.getD i default).parent/\(p.getD i default).parent<i):=by
  intro i hi;have:=h1 i hi;simp only[dw,ef,within,Bool.and_eq_true,decide_eq_true_eq] at this;obtain⟨⟨a,b,c⟩,d⟩:=this;exact⟨a,by omega,by omega⟩
 exact⟨h2,fun i hi=>(h3 i hi).1,fun i hi=>(h3 i hi).2.1,fun i hi=>(h3 i hi).2.2⟩
end Go.Ab
namespace Go.Ab
def sliceC {α:Type} (fr:Bool) (f:α->List ao) (l:List α):List ao:=[.list fr (l.map f)]
def encI (t:Bool) (l:List Int):ao:=.list t (l.map bW)
def encS (t:Bool) (l:List aH):ao:=.list t (l.map bO)
theorem nc (l:List Int):∀ e ∈ l.map bW,∀ a ∈ e,flat a=true:=by simp[bW]
theorem mV (l:List aH):∀ e ∈ l.map bO,∀ a ∈ e,flat a=true:=by simp[bO]
theorem u5 (t:Bool) (l:List Int):old (encI t l)=encI false l:=by rw[encI,eS,de (nc l)];rfl
theorem ui (t:Bool) (l:List aH):old (encS t l)=encS false l:=by rw[encS,eS,de (mV l)];rfl
theorem ue (t:Bool) (l:List Int):gH (encI t l):=.list _ _ fun e he a ha=>gH.flat (nc l e he a ha)
theorem tJ (t:Bool) (l:List aH):gH (encS t l):=.list _ _ fun e he a ha=>gH.flat (mV l e he a ha)
section
variable {H:au} {n:Nat}
theorem az.encI (t:Bool) (l:List Int):az H n (encI t l) (encI false l):=az.rM (ue t l) (u5 t l)
theorem az.encS (t:Bool) (l:List aH):az H n (encS t l) (encS false l):=az.rM (tJ t l) (ui t l)
end
end Go.Ab
namespace Go.Ab
abbrev oE {α:Type} (l:List Sh) (f:α->List ao) (v:ao) (es:List α):bG:=(.s l,v,.list true (es.map f))
abbrev oI (v:ao) (es:List Int):bG:=(.s [.c],v,.list true (es.map bW))
abbrev oS (v:ao) (es:List aH):bG:=(.s [.c],v,.list true (es.map bO))
section
variable {H H':au} {n n':Nat} {K:List bG} {ids:List Id} {x:bG}
theorem Sep.f1 {a:bG} (h:Sep H n (a::x::K) ids):Sep H n (x::a::K) ids:=Sep.front (K1:=[a]) h
theorem Sep.f2 {a b:bG} (h:Sep H n (a::b::x::K) ids):Sep H n (x::a::b::K) ids:=Sep.front (K1:=[a,b]) h
theorem Sep.dr (h:Sep H n (x::K) ids):Sep H n K ids:=Sep.right (K1:=[x]) h
theorem Sep.hd (h:Sep H n (x::K) ids):Sep H n [x] ids:=Sep.left (K1:=[x]) (K2:=K) h
theorem Sep.ap {α:Type} {l:List Sh} {f:α->List ao} {v:ao} {xs ys zs:List α} (hz:zs=xs++ys) (h:Sep H n ((.s l,v,.list true (xs.map f++ys.map f))::K) ids):Sep H n ((.s l,v,.list true (zs.map f))::K) ids:=by
 rw[hz,List.map_append];exact h
theorem Sep.vB {α:Type} [Inhabited α] {f:α->List ao} {l:List Sh} {d k:Nat} {z:List ao} {K:List bG} {ids:List Id} {xs:List α} (he:xs=List.replicate k default) (hs:Sep H n K ids) (hz:∀ H:au,Row H l z (f default) []) :
  Sep (H.set (n,d) ⟨l.length,List.replicate k z⟩) (n+1) ((.s l,.arr (n,d) k 0 k,.list true (xs.map f))::K) ids:=by
 rw[he];exact Sep.addRep hs hz
theorem Sep.st {α:Type} {l:List Sh} {f:α->List ao} {v:ao} {xs zs:List α} {q:Nat} {y:α} (hz:zs=xs.set q y) (h:Sep H n ((.s l,v,.list true ((xs.map f).set q (f y)))::K) ids):Sep H n ((.s l,v,.list true (zs.map f))::K) ids:=by
 rw[hz,List.map_set];exact h
theorem Sep.oc {l:List Sh} {v e:ao} (h:Sep H n ((.s l,v,e)::K) ids):aJ v=some [v]/\Ab.aL v=true:=⟨h.cells,h.aL⟩
end
theorem cX:(∀ (k:IntKind) (a:Int),aL (.v (.int k a))=true)/\(∀ a:Bool,aL (.v (.bool a))=true)/\(∀ a:ByteArray,aL (.v (.string a))=true)/\aL (.v (.slice none 0 0))=true /\
  (∀ (fr:Bool) (l:List (List ao)),aL (.list fr l)=true)/\(∀ (id:Id) (g o l:Nat),aL (.arr id g o l)=true)/\∀ (id:Id) (g o l:Nat),aL (.ptr id g o l)=true:=
 ⟨fun _ _=>rfl,fun _=>rfl,fun _=>rfl,rfl,fun _ _=>rfl,fun _ _ _ _=>rfl,fun _ _ _ _=>rfl⟩
theorem fx:(∀ (k:IntKind) (a:Int),aJ (.v (.int k a))=some [.v (.int k a)])/\(∀ a:Bool,aJ (.v (.bool a))=some [.v (.bool a)])/\(∀ a:ByteArray,aJ (.v (.string a))=some [.v (.string a)])/\aJ (.v (.slice none 0 0))=some [.v (.slice none 0 0)] /\
  (∀ l:List ao,aJ (.agg l)=some l)/\(∀ (fr:Bool) (l:List (List ao)),aJ (.list fr l)=some [.list fr l])/\(∀ (id:Id) (g o l:Nat),aJ (.arr id g o l)=some [.arr id g o l])/\∀ (id:Id) (g o l:Nat),aJ (.ptr id g o l)=some [.ptr id g o l]:=
 ⟨fun _ _=>rfl,fun _=>rfl,fun _=>rfl,rfl,fun _=>rfl,fun _ _=>rfl,fun _ _ _ _=>rfl,fun _ _ _ _=>rfl⟩
theorem aF {α:Sort _} {x:α} {p:α->Prop} (h:∀ v,v=x->p v):∃ v,v=x/\p v:=⟨x,rfl,h x rfl⟩
abbrev pA (i n:Nat):ao:=.ptr (i,n) 1 0 0
section
variable {H:au} {n:Nat}
theorem argI (t:Bool) (l:List Int):az H n (.list t (l.map bW)) (.list false (l.map bW)):=az.encI t l
theorem argS (t:Bool) (l:List aH):az H n (.list t (l.map bO)) (.list false (l.map bO)):=az.encS t l
end
end Go.Ab
namespace Go.Ab.Vg
theorem aI.up {σ τ:Type} {body:σ->(σ->Prop)->Prop} {s:σ} (N:Nat) (idx:σ->Int) (mk:Nat->τ->σ) (hidx:∀ k t,idx (mk k t)=(k:Int)) (an:Nat->τ->Prop) (t0:τ) (hs:s=mk 0 t0) (h0:an 0 t0)
  (step:∀ k t (K:σ->Prop),k<=N->an k t->(k<N->∀ t',an (k+1) t'->K (mk (k+1) t'))->body (mk k t) K):aI body s:=by
 refine⟨fun s=>∃ k t,s=mk k t/\k<=N/\an k t,fun s=>N - (idx s).toNat,⟨0,t0,hs,Nat.zero_le _,h0⟩,?_⟩;rintro s ⟨k,t,rfl,hk,hI⟩;refine step k t _ hk hI fun hlt t' hI'=>⟨⟨k+1,t',rfl,hlt,hI'⟩,?_⟩
 show N - (idx _).toNat<N - (idx _).toNat;rw[hidx,hidx];omega
theorem aI.qy {τ:Type} {body:Int × τ->(Int × τ->Prop)->Prop} (N:Nat) (an:Nat->τ->Prop) (t0:τ) (h0:an 0 t0)
  (step:∀ k t (K:Int × τ->Prop),k<=N->an k t->(k<N->∀ t',an (k+1) t'->K (((k:Int)+1),t'))->body ((k:Int),t) K):aI body (0,t0):=
 aI.up N (·.1) (fun k t=>((k:Int),t)) (fun _ _=>rfl) an t0 rfl h0 fun k t K hk hI h=>step k t K hk hI fun hlt t' hI'=>by have:=h hlt t' hI';simpa using this
theorem aI.upR {τ:Type} {body:τ × Int->(τ × Int->Prop)->Prop} (N:Nat) (an:Nat->τ->Prop) (t0:τ) (h0:an 0 t0)
  (step:∀ k t (K:τ × Int->Prop),k<=N->an k t->(k<N->∀ t',an (k+1) t'->K (t',((k:Int)+1)))->body (t,(k:Int)) K):aI body (t0,0):=
 aI.up N (·.2) (fun k t=>(t,(k:Int))) (fun _ _=>rfl) an t0 rfl h0 fun k t K hk hI h=>step k t K hk hI fun hlt t' hI'=>by have:=h hlt t' hI';simpa using this
theorem aI.up1 {body:Int->(Int->Prop)->Prop} (N:Nat) (an:Nat->Prop) (h0:an 0)
  (step:∀ k (K:Int->Prop),k<=N->an k->(k<N->an (k+1)->K ((k:Int)+1))->body (k:Int) K):aI body 0:=
 aI.up (τ:=Unit) N id (fun k _=>(k:Int)) (fun _ _=>rfl) (fun k _=>an k) () rfl h0 fun k _ K hk hI h=>step k K hk hI fun hlt hI'=>by have:=h hlt () hI';simpa using this
theorem aI.byM {σ:Type} {body:σ->(σ->Prop)->Prop} {s:σ} (an:σ->Prop) (m:σ->Nat) (h0:an s) (step:∀ s,an s->body s (fun s'=>an s'/\m s'<m s)):aI body s:=⟨an,m,h0,step⟩
theorem gI {α:Type} [Inhabited α] (l:List α) (k:Nat):at' l (k:Int)=l.getD k default:=by simp[at']
theorem c7 {α:Type} [Inhabited α] {l:List α} {k:Nat} (h:k<l.length):at' l (k:Int)=l[k]:=by simp[at',h]
def idxs {α:Type} [Inhabited α] (l:List α) (p:α->Bool) (k:Nat):List Int:=((List.range k).filter fun i:Nat=>p (at' l (i:Int))).map fun i:Nat=>(i:Int)
section
variable {α:Type} [Inhabited α] (l:List α) (p:α->Bool)
theorem la {k:Nat} (h:p (at' l (k:Int))=true):idxs l p (k+1)=idxs l p k++[(k:Int)]:=by simp[idxs,List.range_succ,h]
theorem oe {k:Nat} (h:p (at' l (k:Int))=false):idxs l p (k+1)=idxs l p k:=by simp[idxs,List.range_succ,h]
theorem eP (k:Nat):(idxs l p k).length<=k:=by
 have:=List.length_filter_le (fun i:Nat=>p (at' l (i:Int))) (List.range k);simpa[idxs] using this
theorem uW {k:Nat} {x:Int}:x ∈ idxs l p k↔0<=x/\x<k/\p (at' l x)=true:=by
 simp only[idxs,List.mem_map,List.mem_filter,List.mem_range]
 constructor
 ·rintro⟨i,⟨h1,h2⟩,rfl⟩;exact⟨by omega,by omega,h2⟩
 ·rintro⟨h1,h2,h3⟩;exact⟨x.toNat,⟨by omega,by rwa [Int.toNat_of_nonneg h1]⟩,by omega⟩
end
end Go.Ab.Vg
namespace Go.Ab
open Go.Proofs
theorem e14:aV prog 14:=aV.of func14 (by kernel_rfl) rfl
theorem e28:aV prog 28:=aV.of func28 (by kernel_rfl) rfl
theorem e24:aV prog 24:=aV.of func24 (by kernel_rfl) rfl
theorem e25:aV prog 25:=aV.of func25 (by kernel_rfl) rfl
theorem e42:aV prog 42:=aV.of func42 (by kernel_rfl) rfl
theorem e43:aV prog 43:=aV.of func43 (by kernel_rfl) rfl
theorem e59:aV prog 59:=aV.of func59 (by kernel_rfl) rfl
theorem kL (n lo hi:Int):aA prog 24 [int n,int lo,int hi] (fun r=>r=bool (within n lo hi)):=by
 refine aA.of func24 rfl ntmps24 (by simp) fun Q hQ=>?_
 refine zE fun _ V=>?_
 simp;refine V _ _ _ (zE fun _ V=>?_);simp
 by_cases h:lo<=n
 all_goals
  simp[h];refine V _ _ _ (I.ret func24 (aG.one results24) (hQ _ _ _ _ (jJ.v _ _ _) ?_));simp[within,h]
theorem pE {s:aH} {k:Nat} (hk:k<s.length) (h:lower s[k]=false):ef s=false:=by
 have:s.all lower=false:=by
  rw[List.all_eq_false];exact⟨s[k],List.getElem_mem hk,by simp[h]⟩
 simp[ef,this]
theorem mX (s:aH) (hs:s.length<=4294967296):aA prog 25 [str s] (fun r=>r=bool (ef s)):=by
 refine aA.of func25 rfl ntmps25 (by simp) fun Q hQ=>?_
 refine zE fun _ V=>?_
 simp;apply V;refine zS fun _ V=>?_
 simp;apply V;refine I.block (I.dQ s.length (fun k O H n=>O 0=str s/\O 3=int k/\(s.take k).all lower=true) ?_ ?_)
 ·simp
 ·rintro k O H n hk ⟨h0,h3,hall⟩ IH;refine zS fun _ V=>?_
  simp [h0, h3];apply V;refine I.ite rfl (fun hc1 => ?_) (fun hc1 => ?_)
  ·simp at hc1;apply zK;apply I.block;refine zE fun _ V=>?_
   simp [h0, h3, hc1]
   by_cases ha:(s[k].toNat:Int)<97
   ·simp[ha];apply V;refine I.ite rfl (fun _=>?_) (fun h=>by simp at h);refine zE fun _ V=>?_
    simp;apply V;refine I.ret func25 (aG.one results25) (hQ _ _ _ _ (.v _ _ _) ?_);rw[pE hc1 (by simp[lower];omega)]
   ·by_cases hz:(122:Int)<s[k].toNat
    ·simp[ha,hz,h0,h3,hc1];apply V;refine I.ite rfl (fun _=>?_) (fun h=>by simp at h);refine zE fun _ V=>?_
     simp;apply V;refine I.ret func25 (aG.one results25) (hQ _ _ _ _ (.v _ _ _) ?_);rw[pE hc1 (by simp[lower];omega)]
    ·simp[ha,hz,h0,h3,hc1];apply V;refine I.ite rfl (fun h=>by simp at h) (fun _=>?_);apply I.skip;refine zI fun _ V=>?_
     simp [h3, bY (show k < 4611686018427387904 by omega)];apply V;refine IH hc1 _ _ _ ?_;rw[List.take_succ_eq_append_getElem hc1,List.all_append,hall];simp[h0,lower];omega
  ·simp at hc1;refine I.exit rfl ?_;refine zE fun _ V=>?_
   simp [h0];refine zA (kL s.length 1 4) e24 (.cons (.v _ _ _) (.cons (.v _ _ _) (.cons (.v _ _ _) .nil))) (by simp) ?_;rintro _ rfl;simp;apply V;refine I.ret func25 (aG.one results25) (hQ _ _ _ _ (.v _ _ _) ?_);rw[List.take_of_length_le hc1] at hall;simp only[ef,hall,Bool.and_true]
theorem lq (p:aw) (hp:p.length<=1048576) (hn:∀ i,i<p.length->(p.getD i default).name.length<=4294967296):aA prog 14 [bq false p] (fun r=>r=bool (dm p)):=by
 refine aA.of func14 rfl ntmps14 (by simp) fun Q hQ=>?_
 refine zE fun _ V=>?_
 simp [bq];apply V;refine zS fun _ V=>?_
 simp;apply V;refine I.block (I.dQ p.length (fun k O H n=>O 1 = .ptr (0,1) 1 0 0/\H (0,1)=some ⟨1,[[.list false (p.map J.cells)]]⟩/\O 3=int k/\∀ i,i<k->dw p i=true) ?_ ?_)
 ·simp
 ·rintro k O H n hk ⟨h1,hH,h3,hall⟩ IH;refine zS fun _ V=>?_
  simp [h1, hH, h3];apply V;refine I.ite rfl (fun hc1 => ?_) (fun hc1 => ?_)
  ·simp at hc1;apply zK;apply I.block;refine zE fun _ V=>?_
   simp [h1, hH, h3, hc1, J.cells];apply V;refine zE fun _ V=>?_
   simp;have hx:p.getD k default=p[k]:=by simp[hc1]
   have hok:dw p k=(within p[k].kind 0 3 && ef p[k].name && within p[k].parent (-1) ((k:Int) - 1)):=by rw[dw,hx]
   have hnm:=hn k hc1;rw[hx] at hnm;refine zA (kL p[k].kind 0 3) e24 (.cons (.v _ _ _) (.cons (.v _ _ _) (.cons (.v _ _ _) .nil))) (by simp) ?_;rintro _ rfl;cases hw:within p[k].kind 0 3
   ·simp[hw];apply V;refine I.ite rfl (fun _=>?_) (fun h=>by simp at h);refine zE fun _ V=>?_
    simp;apply V;refine I.ret func14 (aG.one results14) (hQ _ _ _ _ (.v _ _ _) ?_);rw[dP hc1 (by rw[hok];simp[hw])]
   ·simp[hw];refine zA (mX p[k].name hnm) e25 (.cons (.v _ _ _) .nil) (by simp) ?_;rintro _ rfl;cases hs:ef p[k].name
    ·simp[hs];apply V;refine I.ite rfl (fun _=>?_) (fun h=>by simp at h);refine zE fun _ V=>?_
     simp;apply V;refine I.ret func14 (aG.one results14) (hQ _ _ _ _ (.v _ _ _) ?_);rw[dP hc1 (by rw[hok];simp[hw,hs])]
    ·simp[hs,h3,show -9223372036854775808<=(k:Int) - 1 by omega,show (k:Int) - 1<=9223372036854775807 by omega];refine zA (kL p[k].parent (-1) ((k:Int) - 1)) e24 (.cons (.v _ _ _) (.cons (.v _ _ _) (.cons (.v _ _ _) .nil))) (by simp) ?_;rintro _ rfl;cases hu:within p[k].parent (-1) ((k:Int) - 1)
     ·simp[hu];apply V;refine I.ite rfl (fun _=>?_) (fun h=>by simp at h);refine zE fun _ V=>?_
      simp;apply V;refine I.ret func14 (aG.one results14) (hQ _ _ _ _ (.v _ _ _) ?_);rw[dP hc1 (by rw[hok];simp[hw,hs,hu])]
     ·simp[hu];apply V;refine I.ite rfl (fun h=>by simp at h) (fun _=>?_);apply I.skip;refine zI fun _ V=>?_
      simp [h3, bY (show k < 4611686018427387904 by omega)];apply V;refine IH hc1 _ _ _ ?_;simp[h1,hH];intro i hi
      by_cases hik:i=k
      ·subst hik;rw[hok];simp[hw,hs,hu]
      ·exact hall i (by omega)
  ·simp at hc1;refine I.exit rfl ?_;refine zE fun _ V=>?_
   simp [h1, hH];apply V;refine I.ret func14 (aG.one results14) (hQ _ _ _ _ (.v _ _ _) ?_);rw[nb (by rwa [show k=p.length by omega] at hall)];simp;omega
end Go.Ab
namespace Go.Ab
open Go.Proofs
theorem mg (p:aw) (parent:Int) (hp:p.length<=1048576):aA prog 42 [bq false p,int parent] (fun r=>r=kO true (aC p parent p.length)):=by
 refine aA.of func42 rfl ntmps42 (by simp) fun Q hQ=>?_
 refine zE fun _ V=>?_
 simp [bq];apply V;refine zE fun _ V=>?_
 simp;apply V;refine zS fun _ V=>?_
 simp;apply V;refine I.block (I.dQ p.length (fun k O H n=>O 1=int parent/\O 2 = .ptr (0,2) 1 0 0/\H (0,2)=some ⟨1,[[.list false (p.map J.cells)]]⟩/\O 6=int k/\O 5 = .arr (1,7) (aC p parent k).length 0 (aC p parent k).length/\H (1,7)=some ⟨1,(aC p parent k).map fun (i:Nat)=>[int (i:Int)]⟩) ?_ ?_)
 ·simp[aC]
 ·rintro k O H n hk ⟨h1,h2,hH2,h6,h5,hH⟩ IH;refine zS fun _ V=>?_
  simp [h2, hH2, h6];apply V;refine I.ite rfl (fun hc1 => ?_) (fun hc1 => ?_)
  ·simp at hc1;apply zK;apply I.block;refine zE fun _ V=>?_
   simp [h2, hH2, h6, hc1, h1, J.cells];apply V;have hks:=mL p parent k;have hkl:=ic p parent k;simp[hc1] at hks;refine I.ite rfl (fun hc2 => ?_) (fun hc2 => ?_)
   ·simp at hc2;refine zF fun _ V=>?_
    simp [h5, h6, hH, show (aC p parent k).length <= 1073741823 by omega];apply V;refine zI fun _ V=>?_
    simp [h6, bY (show k < 4611686018427387904 by omega)];apply V;refine IH hc1 _ _ _ ?_;simp[h1,h2,hH2,hks,hc2]
   ·simp at hc2;apply I.skip;refine zI fun _ V=>?_
    simp [h6, bY (show k < 4611686018427387904 by omega)];apply V;refine IH hc1 _ _ _ ?_;simp[h1,h2,hH2,hks,hc2,h5,hH]
  ·simp at hc1;have hke:k=p.length:=by omega
   subst hke;refine I.exit rfl ?_;refine zE fun _ V=>?_
   simp [h5];apply V;exact I.ret func42 (aG.one results42) (hQ _ _ _ _ (.of (hU.pe (by simp[hH];rfl) (by simp))) rfl)
theorem jj (k:Int) (hk:1<=k/\k<=3):aA prog 59 [int k] (fun r=>r=str (word (k - 1).toNat)):=by
 refine aA.of func59 rfl ntmps59 (by simp) fun Q hQ=>?_
 refine zE fun _ V=>?_
 simp;apply V;refine zS fun _ V=>?_
 simp;apply V;apply I.block;have:k=1\/k=2\/k=3:=by omega
 refine zE fun _ V=>?_
 simp;apply V;refine I.ite rfl (fun hc1=>?_) (fun hc1=>?_)
 ·simp at hc1;subst hc1;refine zE fun _ V=>?_
  simp;apply V;exact I.ret func59 (aG.one results59) (hQ _ _ _ _ (.v _ _ _) (by simp[word]))
 ·simp at hc1;refine zE fun _ V=>?_
  simp;apply V;refine I.ite rfl (fun hc2=>?_) (fun hc2=>?_)
  ·simp at hc2;subst hc2;refine zE fun _ V=>?_
   simp;apply V;exact I.ret func59 (aG.one results59) (hQ _ _ _ _ (.v _ _ _) (by simp[word]))
  ·simp at hc2;have:k=3:=by omega
   subst this;refine zE fun _ V=>?_
   simp;apply V;refine I.ite rfl (fun _=>?_) (fun h=>by simp at h);refine zE fun _ V=>?_
   simp;apply V;exact I.ret func59 (aG.one results59) (hQ _ _ _ _ (.v _ _ _) (by simp[word]))
theorem gC (x:J) (s:aH) (hk:0<=x.kind/\x.kind<=3) (hn:x.name.length<=1073741824) (hs:s.length<=1152921504606846976):aA prog 43 [.agg x.cells,str s] (fun r=>r=str (aO x s)):=by
 have hwl:=l9 (x.kind - 1).toNat;refine aA.of func43 rfl ntmps43 (by simp) fun Q hQ=>?_
 refine zE fun _ V=>?_
 simp;apply V;refine zS fun _ V=>?_
 simp [J.cells];apply V;refine I.ite rfl (fun hc1 => ?_) (fun hc1 => ?_)
 ·simp at hc1;refine zE fun _ V=>?_
  simp (disch := first | omega | simp) [if_pos];apply V;exact I.ret func43 (aG.one results43) (hQ _ _ _ _ (.v _ _ _) (by simp[aO,hc1]))
 ·simp at hc1;apply I.skip;refine I.gY aB aD cf (by decide) (by kernel_rfl) fun _ V=>?_
  simp;refine bw.c8 aB aD (jj x.kind (by omega)) e59 (.cons (.v _ _ _) .nil) (by decide) rfl (by simp) ?_;generalize hw:word (x.kind - 1).toNat=w at hwl;simp (disch:=first | omega | simp) [if_pos];apply V;refine I.ret func43 (aG.one results43) (hQ _ _ _ _ (.v _ _ _) ?_);unfold aO;rw[if_neg hc1,hw];simp
theorem fJ (l:List aH) (a:aH) (h:l ≠ []):Lib.join (l++[a]) [124]=Lib.join l [124]++[124]++a:=by
 induction l with
 | nil=>exact absurd rfl h
 | cons b l ih=>
  cases l with
  | nil=>simp[Lib.join,List.intercalate]
  | cons c l=>
   have:=ih (by simp);simp[Lib.join,List.intercalate] at this ⊢;rw[this]
end Go.Ab
namespace Go.Ab
open Go.Proofs
theorem jx {p:aw} (hp:Valid p):∀ (d:Nat) (parent:Int),-1<=parent->parent<p.length->(p.length:Int) - parent<=d->d<=9 ->
  aA prog 28 [bq false p,int parent] (fun r=>r=str (bb p d parent))
 | 0,parent,_,h1,h2,_=>by omega
 | d+1,parent,h0,h1,h2,hd=>by
  have hp8:=hp.len;have hkl:=ic p parent p.length;have hpd:8 ^ d<=8 ^ 8:=Nat.pow_le_pow_right (by omega) (by omega);have hjl:∀ j,(Lib.join (((aC p parent p.length).take j).map fun k=>aO (p.getD k default) (bb p d k)) [124]).length<=4294967296:=by
   intro j;have:=fD (((aC p parent p.length).take j).map fun k=>aO (p.getD k default) (bb p d k)) [124] (16 * 8 ^ d - 15+12) (fun s hs=>by
    simp only[List.mem_map] at hs;obtain⟨k,hk,rfl⟩:=hs;have h1:=cz (p.getD k default) (bb p d k) (hp.name k (hP (List.mem_of_mem_take hk)).1);have h2:=dN hp d k;omega)
   simp only[List.length_map,List.length_singleton,List.length_take] at this;have hm:min j (aC p parent p.length).length * (16 * 8 ^ d - 15+12+1)<=8 * (16 * 8 ^ d - 15+12+1):=Nat.mul_le_mul_right _ (by omega);omega
  refine aA.of func28 rfl ntmps28 (by simp) fun Q hQ=>?_
  refine zE fun _ V=>?_
  simp [bq];apply V;refine zE fun _ V=>?_
  simp;refine zA (mg p parent (by omega)) e42 (.cons (az.bq false p) (.cons (.v _ _ _) .nil)) (by simp[bq]) ?_;rintro _ rfl;simp[kO];apply V;refine zS fun _ V=>?_
  simp;apply V;refine I.block (I.dQ (aC p parent p.length).length (fun k O H n=>O 2 = .ptr (0,2) 1 0 0/\H (0,2)=some ⟨1,[[.list false (p.map J.cells)]]⟩/\O 5 = .list true ((aC p parent p.length).map fun (i:Nat)=>[int (i:Int)])/\O 7=int k/\O 6=str (Lib.join (((aC p parent p.length).take k).map fun i=>aO (p.getD i default) (bb p d i)) [124])) ?_ ?_)
  ·simp[Lib.join]
  ·rintro k O H n hk ⟨h2,hH2,h5,h7,h6⟩ IH;refine zS fun _ V=>?_
   simp [h5, h7];apply V;refine I.ite rfl (fun hc1 => ?_) (fun hc1 => ?_)
   ·simp at hc1;have him:(aC p parent p.length)[k] ∈ aC p parent p.length:=List.getElem_mem hc1;have hsk:(aC p parent p.length).take (k+1)=(aC p parent p.length).take k++[(aC p parent p.length)[k]]:=List.take_succ_eq_append_getElem hc1;obtain⟨i,hgk⟩:∃ i,(aC p parent p.length)[k]=i:=⟨_,rfl⟩
    rw[hgk] at him hsk;obtain⟨hilt,hip⟩:=hP him;have hup:=hp.up i hilt;have hkd:=hp.kind i hilt;have hnm:=hp.name i hilt;have htl:=dN hp d i;have hjk:=hjl k;have hntl:=cz (p.getD i default) (bb p d i) hnm;apply zK;apply I.block;refine zS fun _ V=>?_
    simp [h7];apply V;refine I.ite rfl (fun hc2 => ?_) (fun hc2 => ?_)
    ·simp at hc2;have hkz:¬ ((aC p parent p.length).take k=[]):=by
      intro he;have:=congrArg List.length he;rw[List.length_take] at this;simp only[List.length_nil] at this;omega
     have hjs:Lib.join (((aC p parent p.length).take (k+1)).map fun i=>aO (p.getD i default) (bb p d i)) [124]=Lib.join (((aC p parent p.length).take k).map fun i=>aO (p.getD i default) (bb p d i)) [124]++[124]++aO (p.getD i default) (bb p d i):=by
      rw[hsk,List.map_append,List.map_singleton,fJ _ _ (by simpa using hkz)]
     generalize hj0:Lib.join (((aC p parent p.length).take k).map fun i=>aO (p.getD i default) (bb p d i)) [124]=s0 at hjk hjs h6;refine zF fun _ V=>?_
     simp (disch := first | omega | simp) [h6, if_pos];apply V;refine I.lx aB aD cf (by decide) (by kernel_rfl) fun _ V=>?_
     simp [h2, hH2, h5, h7, hc1, hilt, hgk, J.cells];refine bw.c8 aB aD (jx hp d i (by omega) (by omega) (by omega) (by omega)) e28 (.cons (az.bq false p) (.cons (.v _ _ _) .nil)) (by decide) rfl (by simp[bq,J.cells]) ?_;simp;refine bw.c8 aB aD (gC (p.getD i default) (bb p d i) hkd (by omega) (by omega)) e43 (.cons (az.node _) (.cons (.v _ _ _) .nil)) (by decide) rfl (by simp[J.cells,hilt]) ?_;generalize hnt:aO (p.getD i default) (bb p d i)=t0 at hntl hjs;simp (disch:=first | omega | simp) [if_pos];apply V;refine zI fun _ V=>?_
     simp [h7, bY (show k < 4611686018427387904 by omega)];apply V;refine IH hc1 _ _ _ ?_;rw[hjs];simp[h2,hH2,h5]
    ·simp at hc2;subst hc2;simp[Lib.join] at h6;apply I.skip;refine I.lx aB aD cf (by decide) (by kernel_rfl) fun _ V=>?_
     simp [h2, hH2, h5, h6, h7, hc1, hilt, hgk, J.cells];refine bw.c8 aB aD (jx hp d i (by omega) (by omega) (by omega) (by omega)) e28 (.cons (az.bq false p) (.cons (.v _ _ _) .nil)) (by decide) rfl (by simp[bq,J.cells]) ?_;simp;refine bw.c8 aB aD (gC (p.getD i default) (bb p d i) hkd (by omega) (by omega)) e43 (.cons (az.node _) (.cons (.v _ _ _) .nil)) (by decide) rfl (by simp[J.cells,hilt]) ?_;generalize hnt:aO (p.getD i default) (bb p d i)=t0 at hntl;simp (disch:=first | omega | simp) [if_pos];apply V;refine zI fun _ V=>?_
     simp [h7];apply V;refine IH hc1 _ _ _ ?_;rw[hsk,List.map_append,List.map_singleton,hnt];simp[h2,hH2,h5,Lib.join]
   ·simp at hc1;have hke:k=(aC p parent p.length).length:=by omega
    subst hke;rw[List.take_length] at h6;refine I.exit rfl ?_;refine zS fun _ V=>?_
    simp [h5];apply V;refine I.ite rfl (fun hc3 => ?_) (fun hc3 => ?_)
    ·simp at hc3;refine zE fun _ V=>?_
     simp;apply V;exact I.ret func28 (aG.one results28) (hQ _ _ _ _ (.v _ _ _) (by simp[bb,bD,hc3]))
    ·simp at hc3;apply I.skip;refine zE fun _ V=>?_
     simp [h6];apply V;exact I.ret func28 (aG.one results28) (hQ _ _ _ _ (.v _ _ _) (by simp[bb,bD,hc3]))
end Go.Ab
namespace Go.Ab
open Go.Proofs
theorem e4:aV prog 4:=aV.of func4 (by kernel_rfl) rfl
theorem e6:aV prog 6:=aV.of func6 (by kernel_rfl) rfl
theorem e9:aV prog 9:=aV.of func9 (by kernel_rfl) rfl
theorem e13:aV prog 13:=aV.of func13 (by kernel_rfl) rfl
theorem e16:aV prog 16:=aV.of func16 (by kernel_rfl) rfl
theorem e20:aV prog 20:=aV.of func20 (by kernel_rfl) rfl
theorem e23:aV prog 23:=aV.of func23 (by kernel_rfl) rfl
theorem e29:aV prog 29:=aV.of func29 (by kernel_rfl) rfl
theorem e37:aV prog 37:=aV.of func37 (by kernel_rfl) rfl
def fH (s:aH) (left:Int):Int:=if left - s.length<0 then -1 else left - s.length
def dT:aw->Int->Int
 | [],left=>left
 | x::r,left=>if fH x.name left<0 then -1 else dT r (fH x.name left)
def dF (p:aw) (left:Int):Int:=if left - p.length<0 then -1 else dT p (left - p.length)
def Small (p:aw):Prop:=p.length<=9223372036854775807/\∀ x ∈ p,x.name.length<=9223372036854775807
theorem nJ (x:J) (left:Int) (h0:0<=left) (h1:left<=1048576) (hn:x.name.length<=9223372036854775807):aA prog 23 [.agg x.cells,int left] (fun r=>r=int (fH x.name left)):=by
 refine aA.of func23 rfl ntmps23 (by simp) fun Q hQ=>?_
 refine zE fun _ V=>?_
 simp;apply V;refine zE fun _ V=>?_
 simp [J.cells, show -9223372036854775808 <= left - x.name.length by omega, show left - x.name.length <= 9223372036854775807 by omega];apply V;refine zS fun _ V=>?_
 simp;apply V;refine I.ite rfl (fun hc1 => ?_) (fun hc1 => ?_)
 ·simp only[decide_eq_true_eq] at hc1;refine zE fun _ V=>?_
  simp;apply V;refine I.ret func23 (aG.one results23) (hQ _ _ _ _ (.v _ _ _) ?_);rw[fH,if_pos hc1]
 ·simp only[decide_eq_false_iff_not] at hc1;apply I.skip;refine zE fun _ V=>?_
  simp;apply V;refine I.ret func23 (aG.one results23) (hQ _ _ _ _ (.v _ _ _) ?_);rw[fH,if_neg hc1]
theorem mC (p:aw) (left:Int) (h0:0<=left) (h1:left<=1048576) (hp:Small p):aA prog 13 [.list false (p.map J.cells),int left] (fun r=>r=int (dF p left)):=by
 obtain⟨hp1,hp2⟩:=hp;refine aA.of func13 rfl ntmps13 (by simp) fun Q hQ=>?_
 refine zE fun _ V=>?_
 simp;apply V;refine zE fun _ V=>?_
 simp [show -9223372036854775808 <= left - p.length by omega, show left - p.length <= 9223372036854775807 by omega];apply V;refine zS fun _ V=>?_
 simp;apply V;refine I.ite rfl (fun hc1 => ?_) (fun hc1 => ?_)
 ·simp only[decide_eq_true_eq] at hc1;refine zE fun _ V=>?_
  simp;apply V;refine I.ret func13 (aG.one results13) (hQ _ _ _ _ (.v _ _ _) ?_);rw[dF,if_pos hc1]
 ·simp only[decide_eq_false_iff_not] at hc1;apply I.skip;refine zS fun _ V=>?_
  simp;apply V;refine I.block (I.dQ p.length (fun k O H n=>O 0 = .list false (p.map J.cells)/\O 5=int k/\∃ cur:Int,O 1=int cur/\0<=cur/\cur<=left/\dT (p.drop k) cur=dF p left) ?_ ?_)
  ·simp[dF,hc1];omega
  ·rintro k O H n hk ⟨h0,h5,cur,h1',hcur,hcl,hsz⟩ IH;refine zS fun _ V=>?_
   simp [h0, h5];apply V;refine I.ite rfl (fun hc2 => ?_) (fun hc2 => ?_)
   ·simp at hc2;apply zK;apply I.block;refine zE fun _ V=>?_
    simp [h0, h5, h1', hc2, J.cells];refine zA (nJ p[k] cur hcur (by omega) (hp2 _ (List.getElem_mem hc2))) e23 (.cons (az.node _) (.cons (.v _ _ _) .nil)) (by simp[J.cells,h1']) ?_;rintro _ rfl;simp;apply V;rw[List.drop_eq_getElem_cons hc2,dT] at hsz;refine zE fun _ V=>?_
    simp;apply V;refine I.ite rfl (fun hc3 => ?_) (fun hc3 => ?_)
    ·simp only[decide_eq_true_eq] at hc3;rw[if_pos hc3] at hsz;refine zE fun _ V=>?_
     simp;apply V;exact I.ret func13 (aG.one results13) (hQ _ _ _ _ (.v _ _ _) (by rw[<- hsz]))
    ·simp only[decide_eq_false_iff_not] at hc3;rw[if_neg hc3] at hsz;apply I.skip;refine zI fun _ V=>?_
     simp [h5, bY (show k < 4611686018427387904 by omega)];apply V;refine IH hc2 _ _ _ ?_;have hle:fH p[k].name cur<=left:=by
      unfold fH
      split<;>omega
     exact⟨by simp[h0],by simp,fH p[k].name cur,by simp,by omega,hle,hsz⟩
   ·simp at hc2;have hke:k=p.length:=by omega
    subst hke;rw[List.drop_length,dT] at hsz;refine I.exit rfl ?_;refine zE fun _ V=>?_
    simp [h1'];apply V;exact I.ret func13 (aG.one results13) (hQ _ _ _ _ (.v _ _ _) (by rw[hsz]))
theorem nH (p:aw) (left:Int) (h0:0<=left) (h1:left<=1048576) (hp:Small p):aA prog 4 [bq false p,int left] (fun r=>r=int (if dF p left<0 then -1 else dF p left)):=by
 refine aA.of func4 rfl ntmps4 (by simp) fun Q hQ=>?_
 refine zE fun _ V=>?_
 simp [bq];apply V;refine zE fun _ V=>?_
 simp;refine zA (mC p left h0 h1 hp) e13 (.cons (.bt (fr:=false) (by simp[J.cells])) (.cons (.v _ _ _) .nil)) (by simp) ?_;rintro _ rfl;simp;apply V;refine zS fun _ V=>?_
 simp;apply V;refine I.ite rfl (fun hc1 => ?_) (fun hc1 => ?_)
 ·simp only[decide_eq_true_eq] at hc1;refine zE fun _ V=>?_
  simp;apply V;exact I.ret func4 (aG.one results4) (hQ _ _ _ _ (.v _ _ _) (by rw[if_pos hc1]))
 ·simp only[decide_eq_false_iff_not] at hc1;apply I.skip;refine zE fun _ V=>?_
  simp;apply V;exact I.ret func4 (aG.one results4) (hQ _ _ _ _ (.v _ _ _) (by rw[if_neg hc1]))
theorem lY:∀ (p:aw) (left:Int),0<=dT p left->∀ x ∈ p,(x.name.length:Int)<=left
 | [],_,_,x,hx=>by simp at hx
 | y::r,left,h,x,hx=>by
  rw[dT] at h
  split at h
  ·omega
  ·rename_i h2
   have h3:fH y.name left=left - y.name.length:=by
    unfold fH at h2 ⊢
    split<;>rename_i h4
    ·rw[if_pos h4] at h2;omega
    ·rfl
   rcases List.mem_cons.1 hx with rfl | hx
   ·rw[h3] at h2;omega
   ·have:=lY r _ h x hx;rw[h3] at this;omega
theorem sZ {p:aw} {left:Int} (h:0<=dF p left):(p.length:Int)<=left/\∀ x ∈ p,(x.name.length:Int)<=left:=by
 unfold dF at h
 split at h
 ·omega
 ·exact⟨by omega,fun x hx=>by have:=lY p _ h x hx;omega⟩
end Go.Ab
namespace Go.Ab
open Go.Proofs
theorem fT (x:J):aA prog 29 [.agg x.cells] (fun r=>r = .agg x.cells):=by
 refine aA.of func29 rfl ntmps29 (by simp) fun Q hQ=>?_
 refine zE fun _ V=>?_
 simp [J.cells];apply V;refine zE fun _ V=>?_
 simp;apply V;refine zE fun _ V=>?_
 simp;apply V;refine zE fun _ V=>?_
 simp;apply V;refine zE fun _ V=>?_
 simp;apply V;refine zE fun _ V=>?_
 simp;apply V;exact I.ret func29 (aG.cell (cs:=x.cells) (v:=.agg x.cells) aB results29 wq (by simp[J.cells]) (by simp[cR,J.cells])) (hQ _ _ _ _ (.of (hU.fresh (by simp[J.cells]))) rfl)
theorem fq (p:aw) (hp:p.length<=1048576):aA prog 16 [.list false (p.map J.cells)] (fun r=>r = .list true (p.map J.cells)):=by
 refine aA.of func16 rfl ntmps16 (by simp) fun Q hQ=>?_
 refine zE fun _ V=>?_
 simp;apply V;refine zE fun _ V=>?_
 simp [show (p.length : Int) <= 1073741824 by omega];apply V;refine zS fun _ V=>?_
 simp;apply V;refine I.block (I.dQ p.length (fun k O H n=>O 0 = .list false (p.map J.cells)/\O 4=int k/\O 3 = .arr (0,7) p.length 0 p.length/\H (0,7)=some ⟨3,part J.cells (J.cells ⟨0,[],0⟩) p k⟩) ?_ ?_)
 ·simp[J.cells,sc]
 ·rintro k O H n hk ⟨h0,h4,h3,hH⟩ IH;refine zS fun _ V=>?_
  simp [h0, h4];apply V;refine I.ite rfl (fun hc1 => ?_) (fun hc1 => ?_)
  ·simp at hc1;apply zK;apply I.block;refine zF fun _ V=>?_
   simp [h0, h3, h4, hc1, J.cells];refine zA (fT p[k]) e29 (.cons (az.node _) .nil) (by simp[J.cells]) ?_;rintro _ rfl;simp[h3,h4,hH,hc1,tI hk,pG hc1,J.cells];apply V;refine zI fun _ V=>?_
   simp [h4, bY (show k < 4611686018427387904 by omega)];apply V;refine IH hc1 _ _ _ ?_;rw[<- tH hc1];simp[h0,h3,J.cells,tw hc1]
  ·simp at hc1;have hke:k=p.length:=by omega
   subst hke;rw[tW] at hH;refine I.exit rfl ?_;refine zE fun _ V=>?_
   simp [h3];apply V;exact I.ret func16 (aG.one results16) (hQ _ _ _ _ (.of (hU.pe (by simp[hH];rfl) (by simp[J.cells]))) rfl)
theorem dE (p:aw) (hp:p.length<=1048576):aA prog 6 [bq false p] (fun r=>r=bq true p):=by
 refine aA.of func6 rfl ntmps6 (by simp) fun Q hQ=>?_
 refine zE fun _ V=>?_
 simp [bq];apply V;refine zE fun _ V=>?_
 simp;apply V;refine zE fun _ V=>?_
 simp;refine zA (fq p hp) e16 (.cons (.bt (fr:=false) (by simp[J.cells])) .nil) (by simp) ?_;rintro _ rfl;simp;apply V;refine zE fun _ V=>?_
 simp;apply V;exact I.ret func6 (aG.cell (cs:=[.list true (p.map J.cells)]) (v:=bq true p) aB results6 ru (by simp) (by simp[cR,bq])) (hQ _ _ _ _ (.of (hU.fresh (by simp[bq,J.cells]))) rfl)
theorem nF (x y:J):aA prog 37 [.agg x.cells,.agg y.cells] (fun r=>r=bool (decide (x=y))):=by
 obtain⟨k1,U,p1⟩:=x;obtain⟨k2,n2,p2⟩:=y;refine aA.of func37 rfl ntmps37 (by simp) fun Q hQ=>?_
 refine zE fun _ V=>?_
 simp [J.cells];apply V;refine zS fun _ V=>?_
 simp;apply V;refine I.ite rfl (fun hc1 => ?_) (fun hc1 => ?_)
 ·simp at hc1;refine zE fun _ V=>?_
  simp;apply V;exact I.ret func37 (aG.one results37) (hQ _ _ _ _ (.v _ _ _) (by simp[hc1]))
 ·simp at hc1;apply I.skip;refine zS fun _ V=>?_
  simp;apply V;refine I.ite rfl (fun hc2 => ?_) (fun hc2 => ?_)
  ·simp at hc2;refine zE fun _ V=>?_
   simp;apply V;exact I.ret func37 (aG.one results37) (hQ _ _ _ _ (.v _ _ _) (by simp[hc2]))
  ·simp at hc2;apply I.skip;refine zS fun _ V=>?_
   simp;apply V;refine I.ite rfl (fun hc3 => ?_) (fun hc3 => ?_)
   ·simp at hc3;refine zE fun _ V=>?_
    simp;apply V;exact I.ret func37 (aG.one results37) (hQ _ _ _ _ (.v _ _ _) (by simp[hc3]))
   ·simp at hc3;apply I.skip;refine zE fun _ V=>?_
    simp;apply V;exact I.ret func37 (aG.one results37) (hQ _ _ _ _ (.v _ _ _) (by simp[hc1,hc2,hc3]))
theorem mG (p q:aw) (hp:p.length<=1048576):aA prog 20 [.list false (p.map J.cells),.list false (q.map J.cells)] (fun r=>r=bool (decide (p=q))):=by
 refine aA.of func20 rfl ntmps20 (by simp) fun Q hQ=>?_
 refine zE fun _ V=>?_
 simp;apply V;refine zS fun _ V=>?_
 simp;apply V;refine I.ite rfl (fun hc1 => ?_) (fun hc1 => ?_)
 ·simp at hc1;refine zE fun _ V=>?_
  simp;apply V;refine I.ret func20 (aG.one results20) (hQ _ _ _ _ (.v _ _ _) ?_);have:p ≠ q:=by intro h;subst h;omega
  simp[this]
 ·simp at hc1;have hlen:p.length=q.length:=by omega
  apply I.skip;refine zS fun _ V=>?_
  simp;apply V;refine I.block (I.dQ p.length (fun k O H n=>O 0 = .list false (p.map J.cells)/\O 1 = .list false (q.map J.cells)/\O 5=int k/\p.take k=q.take k) ?_ ?_)
  ·simp
  ·rintro k O H n hk ⟨h0,h1,h5,heq⟩ IH;refine zS fun _ V=>?_
   simp [h0, h5];apply V;refine I.ite rfl (fun hc2 => ?_) (fun hc2 => ?_)
   ·simp at hc2;have hq2:k<q.length:=by omega
    apply zK;apply I.block;refine I.gY aB aD cf (by decide) (by kernel_rfl) fun _ V=>?_
    simp [h0, h1, h5, hc2, hq2, J.cells];refine bw.c8 aB aD (nF p[k] q[k]) e37 (.cons (az.node _) (.cons (az.node _) .nil)) (by decide) rfl (by simp[J.cells]) ?_;simp;apply V;refine I.ite rfl (fun hc3 => ?_) (fun hc3 => ?_)
    ·simp at hc3;refine zE fun _ V=>?_
     simp;apply V;refine I.ret func20 (aG.one results20) (hQ _ _ _ _ (.v _ _ _) ?_);have:p ≠ q:=by intro h;subst h;exact hc3 rfl
     simp[this]
    ·simp at hc3;apply I.skip;refine zI fun _ V=>?_
     simp [h5, bY (show k < 4611686018427387904 by omega)];apply V;refine IH hc2 _ _ _ ?_;refine⟨by simp[h0],by simp[h1],by simp,?_⟩;rw[List.take_succ_eq_append_getElem hc2,List.take_succ_eq_append_getElem hq2,heq,hc3]
   ·simp at hc2;refine I.exit rfl ?_;refine zE fun _ V=>?_
    simp;apply V;refine I.ret func20 (aG.one results20) (hQ _ _ _ _ (.v _ _ _) ?_);rw[List.take_of_length_le hc2,List.take_of_length_le (by omega)] at heq;simp[heq]
theorem jN (p q:aw) (hp:p.length<=1048576):aA prog 9 [bq false p,bq false q] (fun r=>r=bool (decide (p=q))):=by
 refine aA.of func9 rfl ntmps9 (by simp) fun Q hQ=>?_
 refine zE fun _ V=>?_
 simp [bq];apply V;refine zS fun _ V=>?_
 simp;refine zA (mG p q hp) e20 (.cons (.bt (fr:=false) (by simp[J.cells])) (.cons (.bt (fr:=false) (by simp[J.cells])) .nil)) (by simp) ?_;rintro _ rfl;simp;apply V;refine I.ite rfl (fun hc1 => ?_) (fun hc1 => ?_)
 ·simp at hc1;refine zE fun _ V=>?_
  simp;apply V;exact I.ret func9 (aG.one results9) (hQ _ _ _ _ (.v _ _ _) (by simp[hc1]))
 ·simp at hc1;apply I.skip;refine zE fun _ V=>?_
  simp;apply V;exact I.ret func9 (aG.one results9) (hQ _ _ _ _ (.v _ _ _) (by simp[hc1]))
end Go.Ab
namespace Go.Ab.Vg
abbrev ee (p:aw) (_:Int):Prop:=p.length<=1048576
abbrev kids (p:aw) (a:Int):List Int:=idxs p (fun x=>decide (x.parent=a)) p.length
def kQ (p:aw) (parent:Int) (Z:(List Int)->Prop):Prop:=
 ∀ qf:Int,qf=(p.length:Int)->aI (σ:=Int × (List Int)) (fun (v16,l17) K21=>∀ c22:Bool,c22=decide (v16<qf)->((c22=true->(0<=v16/\v16<p.length)/\∀ x25:J,x25=at' p v16->∀ c30:Bool,c30=decide (x25.parent=parent)->((c30=true->(l17.length+1<=1073741824)/\∀ l33:List Int,l33=l17++[v16]->(cL (v16+1))/\∀ v43:Int,v43=v16+1->K21 (v43,l33))/\(c30=false->(cL (v16+1))/\∀ v46:Int,v46=v16+1->K21 (v46,l17))))/\(c22=false->Z l17))) (0,([]:List Int))
theorem vk (p:aw) (a:Int) (h:ee p a):kQ p a (fun y=>y=kids p a):=by
 unfold kQ;rintro _ rfl;refine aI.qy p.length (fun k out=>out=idxs p (fun x=>decide (x.parent=a)) k) [] rfl ?_;rintro k out K hk rfl IH;have hl:=eP p (fun x=>decide (x.parent=a)) k;simp only[ee] at h;simp only[forall_eq,decide_eq_true_eq,decide_eq_false_iff_not,cL];refine⟨fun h1=>⟨by omega,fun h2=>⟨by omega,by omega,?_⟩,fun h2=>⟨by omega,?_⟩⟩,fun h1=>?_⟩
 ·exact IH (by omega) _ (la _ _ (by simpa using h2)).symm
 ·exact IH (by omega) _ (oe _ _ (by simpa using h2)).symm
 ·rw[show k=p.length by omega]
abbrev mY (x:J) (s:aH):Prop:=(0<=x.kind/\x.kind<=3)/\x.name.length<=1073741824/\s.length<=1152921504606846976
abbrev rZ (l:List aH):Prop:=l.length<=1073741824/\(Lib.join l [124]).length<=140737488355328
abbrev dA (l:List aH):List aH × Unit:=(l.mergeSort fun x y=>decide (x<=y),())
theorem jz {p:aw} {a x:Int} (h:x ∈ kids p a):∃ i:Nat,x=i/\i<p.length/\(p.getD i default).parent=a:=by
 simp only[kids,idxs,List.mem_map,List.mem_filter,List.mem_range,decide_eq_true_eq] at h;obtain⟨i,⟨h1,h2⟩,rfl⟩:=h;exact⟨i,rfl,h1,by simpa[at'] using h2⟩
def bn (p:aw):Nat->Int->aH
 | 0,_=>[]
 | d+1,a=>bD (dA ((kids p a).map fun x=>aO (at' p x) (bn p d x))).1
abbrev ie (p:aw) (_:Int):Prop:=p.length<=1048576
abbrev rn (p:aw) (a:Int):List Int:=kids p a
def fZ (p:aw) (parent:Int) (Z:(List Int)->Prop):Prop:=
 aI (σ:=Int × (List Int)) (fun (i14,l15) K19=>∀ len20:Int,len20=(p.length:Int)->∀ c22:Bool,c22=decide (i14<len20)->((c22=true->(0<=i14/\i14<p.length)/\∀ x25:J,x25=at' p i14->∀ c27:Bool,c27=decide (x25.parent=parent)->((c27=true->(l15.length+1<=1073741824)/\∀ l30:List Int,l30=l15++[i14]->(cL (i14+1))/\∀ v40:Int,v40=i14+1->K19 (v40,l30))/\(c27=false->(cL (i14+1))/\∀ v43:Int,v43=i14+1->K19 (v43,l15))))/\(c22=false->Z l15))) (0,([]:List Int))
theorem ra (p:aw) (a:Int) (h:ie p a):fZ p a (fun y=>y=rn p a):=by
 unfold fZ;refine aI.qy p.length (fun k out=>out=idxs p (fun x=>decide (x.parent=a)) k) [] rfl ?_;rintro k out K hk rfl IH;have hl:=eP p (fun x=>decide (x.parent=a)) k;simp only[ie] at h;simp only[forall_eq,decide_eq_true_eq,decide_eq_false_iff_not,cL];refine⟨fun h1=>⟨by omega,fun h2=>⟨by omega,by omega,?_⟩,fun h2=>⟨by omega,?_⟩⟩,fun h1=>?_⟩
 ·exact IH (by omega) _ (la _ _ (by simpa using h2)).symm
 ·exact IH (by omega) _ (oe _ _ (by simpa using h2)).symm
 ·rw[show k=p.length by omega]
abbrev ec (p:aw):Prop:=p.length<=1048576/\∀ i,i<p.length->(p.getD i default).name.length<=4294967296
def ins (s:aH) (l:List aH):List aH:=l.takeWhile (fun x=>decide (x<=s))++s::l.dropWhile (fun x=>decide (x<=s))
theorem oO (s:aH) (l:List aH):(ins s l).Perm (s::l):=by
 have h:=List.takeWhile_append_dropWhile (p:=fun x=>decide (x<=s)) (l:=l);unfold ins;exact List.perm_middle.trans (by rw[h])
theorem j7 (a b:aH):a<=b\/b<=a:=List.le_total a b
theorem lM (s:aH):∀ {l:List aH},l.Pairwise (·<=·)->(ins s l).Pairwise (·<=·)
 | [],_=>by simp[ins]
 | a::l,h=>by
  obtain⟨h1,h2⟩:=List.pairwise_cons.1 h
  by_cases ha:a<=s
  ·have:ins s (a::l)=a::ins s l:=by simp[ins,ha]
   rw[this];refine List.pairwise_cons.2 ⟨fun b hb=>?_,lM s h2⟩;rcases List.mem_cons.1 ((oO s l).mem_iff.1 hb) with rfl | hb
   ·exact ha
   ·exact h1 b hb
  ·have:ins s (a::l)=s::a::l:=by simp[ins,ha]
   rw[this];have hsa:s<=a:=(j7 a s).resolve_left ha;refine List.pairwise_cons.2 ⟨fun b hb=>?_,h⟩;rcases List.mem_cons.1 hb with rfl | hb
   ·exact hsa
   ·exact List.le_trans hsa (h1 b hb)
theorem j3 (g:Int->aH):∀ (l:List Int) (out:List aH),out.Pairwise (·<=·)->(l.foldl (fun out x=>ins (g x) out) out).Pairwise (·<=·)/\(l.foldl (fun out x=>ins (g x) out) out).Perm (out++l.map g)
 | [],out,h=>by simp[h]
 | x::l,out,h=>by
  obtain⟨h1,h2⟩:=j3 g l (ins (g x) out) (lM _ h);refine⟨h1,h2.trans ?_⟩;rw[List.map_cons];exact ((oO (g x) out).append_right _).trans List.perm_middle.symm
theorem ql (g:Int->aH) (l:List Int):l.foldl (fun out x=>ins (g x) out) []=(l.map g).mergeSort fun x y=>decide (x<=y):=by
 obtain⟨h1,h2⟩:=j3 g l [] List.Pairwise.nil;have h3:((l.map g).mergeSort fun x y=>decide (x<=y)).Pairwise (·<=·):=by
  have:=List.pairwise_mergeSort (le:=fun x y:aH=>decide (x<=y)) (fun a b c h1 h2=>by simp only[decide_eq_true_eq] at *;exact List.le_trans h1 h2) (fun a b=>by simpa using j7 a b) (l.map g);simpa using this
 exact (h2.trans (List.mergeSort_perm _ _).symm).eq_of_pairwise (fun a b _ _ h h'=>List.le_antisymm h h') h1 h3
def wg (p:aw):Nat->Int->aH
 | 0,_=>[]
 | d+1,a=>bD ((kids p a).foldl (fun out x=>ins (aO (at' p x) (wg p d x)) out) [])
abbrev l12Best (p:aw) (a:Int):aH:=wg p ((p.length:Int) - a).toNat a
end Go.Ab.Vg
namespace Go.Ab.Vg
theorem mN {α:Type} {p q:α->Bool}:∀ {l:List α},(∀ x ∈ l,p x=true->q x=true)->(∃ x ∈ l,q x=true/\p x=false)->l.countP p<l.countP q
 | [],_,⟨_,h,_⟩=>by cases h
 | y::l,h,⟨x,hx,h1,h2⟩=>by
  have hle:l.countP p<=l.countP q:=List.countP_mono_left fun z hz=>h z (by simp[hz])
  rcases List.mem_cons.1 hx with rfl | hx
  ·rw[List.countP_cons_of_pos h1,List.countP_cons_of_neg (by simp[h2])];omega
  ·have:=mN (l:=l) (fun z hz=>h z (by simp[hz])) ⟨x,hx,h1,h2⟩;have hy:=h y (by simp);simp only[List.countP_cons]
   by_cases hp:p y=true
   ·rw[if_pos hp,if_pos (hy hp)];omega
   ·rw[if_neg hp];split<;>omega
structure Gp (p:aw):Prop where
 len:p.length<=8
 kind:∀ i,i<p.length->0<=(p.getD i default).kind/\(p.getD i default).kind<=3
 name:∀ i,i<p.length->(p.getD i default).name.length<=4
 acyc:∃ r:Int->Nat,∀ a k,k ∈ kids p a->r k<r a
theorem Gp.rank {p:aw} (h:Gp p):∃ r:Int->Nat,(∀ a,r a<=p.length)/\∀ a k,k ∈ kids p a->r k<r a:=by
 obtain⟨r,hr⟩:=h.acyc;refine⟨fun a=>(List.range p.length).countP fun i:Nat=>decide (r (i:Int)<r a),fun a=>?_,fun a k hk=>?_⟩
 ·have:=List.countP_le_length (p:=fun i:Nat=>decide (r (i:Int)<r a)) (l:=List.range p.length);simpa using this
 ·have hlt:=hr a k hk;obtain⟨i,rfl,hi,_⟩:=jz hk;refine mN (fun x _ hx=>?_) ⟨i,List.mem_range.2 hi,by simpa using hlt,by simp⟩;simp only[decide_eq_true_eq] at hx ⊢;omega
open Classical in
noncomputable def rk (p:aw) (a:Int):Nat:=if h:∃ r:Int->Nat,(∀ a,r a<=p.length)/\∀ a k,k ∈ kids p a->r k<r a then h.choose a else 0
theorem uJ {p:aw} (h:Gp p) (a:Int):rk p a<=p.length:=by
 have:=h.rank;rw[rk,dif_pos this];exact this.choose_spec.1 a
theorem ur {p:aw} (h:Gp p) {a k:Int} (hk:k ∈ kids p a):rk p k<rk p a:=by
 have:=h.rank;rw[rk,rk,dif_pos this,dif_pos this];exact this.choose_spec.2 a k hk
theorem ja {p:aw} (hp:Gp p):∀ (d e:Nat) (x:Int),rk p x<d->rk p x<e->bn p d x=bn p e x
 | 0,_,_,h1,_=>by omega
 | d+1,0,_,_,h2=>by omega
 | d+1,e+1,x,h1,h2=>by
  simp only[bn];have:(kids p x).map (fun y=>aO (at' p y) (bn p d y))=(kids p x).map fun y=>aO (at' p y) (bn p e y):=by
   refine List.map_congr_left fun y hy=>?_
   have:=ur hp hy;rw[ja hp d e y (by omega) (by omega)]
  rw[this]
theorem ff {p:aw} (hl:p.length<=8) (hn:∀ i,i<p.length->(p.getD i default).name.length<=4):∀ (d:Nat) (a:Int),(bn p d a).length+15<=16 * 8 ^ d
 | 0,_=>by simp[bn]
 | d+1,a=>by
  simp only[bn];unfold bD;have h8:8 ^ (d+1)=8 * 8 ^ d:=by rw[Nat.pow_succ,Nat.mul_comm]
  have h1:0<8 ^ d:=Nat.pos_of_ne_zero (by simp)
  split
  ·simp;omega
  ·have:=fD (dA ((kids p a).map fun x=>aO (at' p x) (bn p d x))).1 [124] (16 * 8 ^ d - 15+12) (fun s hs=>by
    simp only[dA,List.mem_mergeSort,List.mem_map] at hs;obtain⟨k,hk,rfl⟩:=hs;obtain⟨i,rfl,hi,hx⟩:=jz hk;have h1:=cz (at' p i) (bn p d i) (by simpa[at'] using hn i hi);have h2:=ff hl hn d i;omega)
   have hk:(kids p a).length<=p.length:=eP _ _ _;simp only[dA,List.length_mergeSort,List.length_map,List.length_singleton] at this ⊢;have hm:(kids p a).length * (16 * 8 ^ d - 15+12+1)<=8 * (16 * 8 ^ d - 15+12+1):=Nat.mul_le_mul_right _ (by omega);omega
abbrev dp (p:aw) (_:Int):Prop:=Gp p
noncomputable abbrev eJ (p:aw) (a:Int):Nat:=rk p a
noncomputable abbrev cW (p:aw) (a:Int):aH:=bn p (rk p a+1) a
def gk (p:aw) (parent:Int) (Z:aH->Prop):Prop:=
 (ee p parent)/\∀ r8:List Int,r8=kids p parent->∀ len16:Int,len16=(r8.length:Int)->aI (σ:=Int × (List aH)) (fun (v30,l31) K36=>∀ c37:Bool,c37=decide (v30<len16)->((c37=true->(0<=v30/\v30<r8.length)/\∀ x44:Int,x44=at' r8 v30->(0<=x44/\x44<p.length)/\∀ x48:J,x48=at' p x44->(dp p x44/\eJ p x44<eJ p parent)/\∀ r51:aH,r51=cW p x44->(mY x48 r51)/\∀ r53:aH,r53=aO x48 r51->(l31.length+1<=1073741824)/\∀ l55:List aH,l55=l31++[r53]->(cL (v30+1))/\∀ v66:Int,v66=v30+1->K36 (v66,l55))/\(c37=false->(l31.length<=1073741824)/\∀ r69:(List aH) × Unit,r69=dA l31->(rZ r69.1)/\∀ r79:aH,r79=bD r69.1->Z r79))) (0,([]:List aH))
theorem qi (p:aw) (a:Int) (h:dp p a):gk p a (fun y=>y=cW p a):=by
 have hp:Gp p:=h;have hp8:=hp.len;unfold gk;refine⟨by omega,?_⟩;rintro _ rfl _ rfl;have hkl:(kids p a).length<=p.length:=eP _ _ _;have hrk:=uJ hp a;obtain⟨d,hd⟩:∃ d,rk p a=d:=⟨_,rfl⟩
 have hpd:8 ^ d<=8 ^ 8:=Nat.pow_le_pow_right (by omega) (by omega);have hlen:∀ y,(bn p d y).length<=268435456:=fun y=>by have:=ff hp.len hp.name d y;omega
 refine aI.qy (kids p a).length (fun k out=>out=((kids p a).take k).map fun x=>aO (at' p x) (bn p d x)) [] (by simp) ?_;rintro k out K hk rfl IH;rintro _ rfl;simp only[decide_eq_true_eq,decide_eq_false_iff_not];refine⟨fun hc=>⟨by omega,?_⟩,fun hc=>?_⟩
 ·rintro _ rfl;have hk1:k<(kids p a).length:=by omega
  have hat:at' (kids p a) (k:Int)=(kids p a)[k]:=by simp[at',hk1]
  have hmem:(kids p a)[k] ∈ kids p a:=List.getElem_mem hk1;have htk:(kids p a).take (k+1)=(kids p a).take k++[(kids p a)[k]]:=List.take_succ_eq_append_getElem hk1;rw[hat];generalize (kids p a)[k]=x at hmem htk ⊢;have hlt:=ur hp hmem;obtain⟨i,rfl,hi,hx⟩:=jz hmem;have hf:cW p i=bn p d i:=ja hp _ _ _ (by omega) (by omega);have hpi:at' p (i:Int)=p.getD i default:=by simp[at']
  refine⟨by omega,?_⟩;rintro _ rfl;refine⟨⟨hp,hlt⟩,?_⟩;rintro _ rfl;rw[hf];refine⟨⟨by rw[hpi];exact hp.kind i hi,by rw[hpi];have:=hp.name i hi;omega,by have:=hlen i;omega⟩,?_⟩;rintro _ rfl;refine⟨by simp;omega,?_⟩;rintro _ rfl;refine⟨by simp only[cL];omega,?_⟩;rintro _ rfl;exact IH hk1 _ (by rw[htk];simp)
 ·have hke:k=(kids p a).length:=by omega
  subst hke;rw[List.take_length];refine⟨by simp;omega,?_⟩;rintro _ rfl;refine⟨⟨by simp[dA];omega,?_⟩,?_⟩
  ·have:=fD (dA ((kids p a).map fun x=>aO (at' p x) (bn p d x))).1 [124] (268435456+12) (fun s hs=>by
    simp only[dA,List.mem_mergeSort,List.mem_map] at hs;obtain⟨y,hy,rfl⟩:=hs;obtain⟨i,rfl,hi,hx⟩:=jz hy;have h1:=cz (at' p i) (bn p d i) (by simpa[at'] using hp.name i hi);have:=hlen i;omega)
   simp only[dA,List.length_mergeSort,List.length_map,List.length_singleton] at this ⊢;have hm:(kids p a).length * (268435456+12+1)<=8 * (268435456+12+1):=Nat.mul_le_mul_right _ (by omega);omega
  ·rintro _ rfl;simp only[cW,hd,bn]
end Go.Ab.Vg
namespace Go.Ab.Vg
theorem leq_le (a b:aH):(Op.bytesLess a b || a == b)=decide (a<=b):=by
 rw[Go.Proofs.bytesLess_eq];apply Bool.eq_iff_iff.2;simp only[Bool.or_eq_true,decide_eq_true_eq,beq_iff_eq]
 constructor
 ·rintro (h | rfl)
  ·exact List.le_of_lt h
  ·exact List.le_refl _
 ·intro h
  by_cases h1:a<b
  ·exact .inl h1
  ·exact .inr (List.le_antisymm h h1)
theorem uM (s:aH):∀ (l:List aH) (k:Nat),k<=l.length->(∀ j<k,at' l (j:Int)<=s)->(k<l.length->¬ at' l (k:Int)<=s)->l.take k++s::l.drop k=ins s l
 | [],k,_,_,_=>by simp[ins]
 | x::l,0,_,_,h=>by
  have hx:¬ x<=s:=by simpa[at'] using h (by simp)
  simp[ins,hx]
 | x::l,k+1,h1,h2,h3=>by
  have hx:x<=s:=by simpa[at'] using h2 0 (by omega)
  have hs:∀ j:Nat,at' (x::l) (((j+1:Nat)):Int)=at' l (j:Int):=fun j=>by rw[gI (x::l) (j+1),gI l j];simp
  have:=uM s l k (by simpa using h1) (fun j hj=>by rw[<- hs];exact h2 (j+1) (by omega)) (fun hk=>by rw[<- hs];exact h3 (by simpa using hk));have hi:ins s (x::l)=x::ins s l:=by simp[ins,hx]
  rw[hi,<- this];simp
end Go.Ab.Vg
namespace Go.Ab.Vg
abbrev wh (p:aw) (left:Int):Int:=if dF p left<0 then -1 else dF p left
theorem jG:∀ (p:aw) (left:Int),dT p left<=max left (-1)
 | [],left=>by simp[dT];omega
 | x::r,left=>by
  rw[dT]
  split
  ·omega
  ·have:=jG r (fH x.name left);have h2:fH x.name left<=max left (-1):=by unfold fH;split<;>omega
   omega
theorem szT_le {p:aw} {left:Int} (h:¬ wh p left<0):0<=wh p left/\wh p left<=left/\(p.length:Int)<=left/\∀ x ∈ p,(x.name.length:Int)<=left:=by
 have h0:0<=dF p left:=by
  rcases Int.lt_or_le (dF p left) 0 with hl | hl
  ·exact (h (by simp[wh,hl])).elim
  ·exact hl
 have he:wh p left=dF p left:=if_neg (by omega);obtain⟨h1,h2⟩:=sZ h0;refine⟨by omega,?_,h1,h2⟩;rw[he];unfold dF at h0 ⊢
 split at h0
 ·omega
 ·rw[if_neg (by assumption)];have:=jG p (left - p.length);omega
theorem vq {p:aw} {left:Int} (h:¬ wh p left<0) (hl:left<=1048576):ec p:=by
 obtain⟨_,_,h1,h2⟩:=szT_le h;refine⟨by omega,fun i hi=>?_⟩;have:=h2 (p.getD i default) (by simp[hi]);omega
end Go.Ab.Vg
namespace Go.Ab
variable [Inhabited cn]
theorem lN:∀ (ns:List Int) (s:Array UInt8),ns.foldl (fun r n=>r.push (UInt8.ofNat n.toNat)) (ByteArray.mk s)=ByteArray.mk (s++(ns.map fun n=>UInt8.ofNat n.toNat).toArray)
 | [],s=>by simp
 | n::ns,s=>by
  have h:(ByteArray.mk s).push (UInt8.ofNat n.toNat)=ByteArray.mk (s.push (UInt8.ofNat n.toNat)):=rfl;rw[List.foldl_cons,h,lN ns]
  congr 1
  simp
theorem jS {P:Program} {N:Nat} {Ty:Types} (hT:aN P Ty) {O:Env} {H:au} {n:Nat} {d:Option Tmp} {ty:TypeId} {pos:String} {af:Array Edge} {gu:Option (Nat × Bool)} {s t:TypeId} {x:Operand} {j:TI} {els:List (List ao)} {ns:List Int}
  (hs:kd Ty s = .slice j) (hj:j.desc = .int .u8) (ht:kd Ty t = .string) (hx:c5 H (O.ev x)=some els) (hn:els=ns.map fun n=>[.v (.int .u8 n)]) :
  aE P N ⟨d,.convert s t x,ty,pos,af,gu⟩ O H n fun v1 H1 U=>v1=str (ns.map fun n=>UInt8.ofNat n.toNat)/\H1=H/\U=n:=by
 refine aE.dy fun c a hH hn' g r=>?_
 subst hH hn';obtain⟨i1,e,hi1,hd1,he⟩:=cb hs;obtain⟨i2,hi2,hd2⟩:=fA ht;have d1:=(hT s i1 hi1).1;rw[hd1] at d1;have d2:=(hT t i2 hi2).1;rw[hd2] at d2;have d3:=(hT e j he).1;rw[hj] at d3;have hsrc:=jv (sz:=1) g (r.ev x) hx (by subst hn;simp);refine⟨_,.string ⟨(ns.map fun n=>UInt8.ofNat n.toNat).toArray⟩,c,?_,⟨rfl,rfl,rfl⟩,.v _,g,aQ.refl c⟩;rcases hsrc with ⟨h1,h2⟩ | ⟨ad,cap,news,h1,h2,h3,h4⟩
 ·have h0:ns=[]:=by rw[h2] at hn;simpa using hn.symm
  subst h0;have:=run_convert_bytes_string (P:=P) c.w s t e none 0 0 d1 d3 d2;simp[execOp,h1,this,Conv.bytesToString,Sem.run_pure]
  rfl
 ·have hnews:news=ns.map (Value.int .u8):=by
   apply List.ext_getElem?;intro q;rcases Nat.lt_or_ge q ns.length with hq | hq
   ·have hel:els[q]?=some [.v (.int .u8 ns[q])]:=by rw[hn];simp[hq]
    obtain⟨_,h5⟩:=h4 q _ hel;obtain⟨u,hu,hr⟩:=h5 0 _ rfl;simp only[Nat.mul_one,Nat.add_zero] at hu;rw[hu,hr.bo];simp[hq]
   ·rw[List.getElem?_eq_none (by rw[h2,hn];simpa using hq),List.getElem?_eq_none (by simpa using hq)]
  have hl:=run_loadCells_list (P:=P) c.w ad news h3;have hlen:news.length=els.length:=by rw[h2,Nat.mul_one]
  rw[hlen,hnews] at hl;have h5:=run_bytesToString c.w ad els.length cap ns hl;have h6:=run_convert_bytes_string (P:=P) c.w s t e (some ad) els.length cap d1 d3 d2;have h7:=lN ns #[];have h8:(ByteArray.empty:ByteArray)=ByteArray.mk #[]:=rfl;simp[execOp,h1,h6,h5,h8,h7]
end Go.Ab
namespace Go.Ab
open Go.Proofs
def sB (k:Nat) (out:aH):aH:=if k=0 then out else sB (k / 10) (UInt8.ofNat (48+k % 10)::out)
 termination_by k
 decreasing_by omega
def iE (k:Nat):aH:=if k=0 then [109,48] else 109::sB k []
theorem wrap_u8 {a:Int} (h:0<=a) (h2:a<256):IntKind.u8.wrap a=a:=by
 unfold IntKind.wrap;simp[IntKind.min,IntKind.max,IntKind.bits,IntKind.signed];omega
theorem e38:aV prog 38:=aV.of func38 (by kernel_rfl) rfl
set_option maxRecDepth 20000 in
theorem o9 (k:Nat) (hk:k<=1152921504606846976):aA prog 38 [int k] (fun r=>r=str (iE k)):=by
 refine aA.of func38 rfl ntmps38 (by simp) fun Q hQ=>?_
 refine zE fun _ V=>?_
 simp;apply V;refine zS fun _ V=>?_
 simp;apply V;refine I.ite rfl (fun hc1 => ?_) (fun hc1 => ?_)
 ·simp at hc1;refine zE fun _ V=>?_
  simp;apply V;refine I.ret func38 (aG.one results38) (hQ _ _ _ _ (.v _ _ _) ?_);simp[iE,hc1]
 ·simp at hc1;apply I.skip;refine zE fun _ V=>?_
  simp;apply V;apply I.seq;refine I.block (I.mR (fun m O H n=>O 0=int m/\∃ out:aH,O 3=str out/\out.length+m<=k/\sB m out=sB k []) k ?_ ?_)
  ·simp
  ·rintro m O H n ⟨h0,out,h3,hlen,hd⟩ IH;refine zS fun _ V=>?_
   simp [h0];apply V;refine I.ite rfl (fun hc2 => ?_) (fun hc2 => ?_)
   ·simp at hc2;apply I.skip;apply I.block;refine zE fun _ V=>?_
    obtain⟨g,hg⟩:∃ g:Nat,g=48+m % 10:=⟨_,rfl⟩
    obtain⟨q,hq'⟩:∃ q:Nat,q=m / 10:=⟨_,rfl⟩
    have hq:((m:Int).tdiv 10)=(q:Int):=by rw[Int.tdiv_eq_ediv_of_nonneg (by omega)];omega
    have hw:IntKind.i64.wrap (48+((m:Int).tmod 10))=(g:Int):=by
     rw[Int.tmod_eq_emod_of_nonneg (by omega),wrap64]<;>omega
    have hw2:IntKind.i64.wrap (q:Int)=(q:Int):=by rw[wrap64]<;>omega
    have hw3:IntKind.u8.wrap (g:Int)=(g:Int):=wrap_u8 (by omega) (by omega);simp [h0, h3, hw, hw3];refine bg.op aB (by decide) (by decide) rfl (jS (ns:=[(g:Int)]) (els:=[[.v (.int .u8 g)]]) aB we (by kernel_rfl) kd_9 (by simp[c5]) rfl) ?_;rintro v H' n' ⟨rfl,rfl,rfl⟩;simp[h3,show 1+out.length<4611686018427387904 by omega];apply V;refine zF fun _ V=>?_
    simp [h0, hq, hw2];apply V;apply I.inBlock;refine IH q _ _ _ (by omega) ⟨by simp,UInt8.ofNat g::out,by simp,by simp;omega,?_⟩;rw[<- hd,hg,hq']
    conv=>rhs;rw[sB,if_neg (by omega)]
   ·simp at hc2;subst hc2;rw[sB,if_pos rfl] at hd;refine I.exit rfl ?_;refine zE fun _ V=>?_
    simp [h3, show 1 + out.length < 4611686018427387904 by omega];apply V;refine I.ret func38 (aG.one results38) (hQ _ _ _ _ (.v _ _ _) ?_);simp[iE,hc1,hd,show ¬ k=0 by omega]
end Go.Ab
namespace Go.Ab.Vg
theorem sY {α:Type} [Inhabited α] {a:List α} {k:Nat} (hk:k<a.length):(a.take k++List.replicate (a.length - k) default).set k a[k]=a.take (k+1)++List.replicate (a.length - (k+1)) default:=by
 rw[List.set_append_right _ _ (by simp;omega)];rw[List.take_succ_eq_append_getElem hk,List.append_assoc]
 congr 1
 have h1:a.length - k=(a.length - (k+1))+1:=by omega
 have h2:k - (a.take k).length=0:=by simp;omega
 rw[h1,h2,List.replicate_succ]
 rfl
abbrev filled {α:Type} [Inhabited α] (a:List α) (k:Nat):List α:=a.take k++List.replicate (a.length - k) default
theorem qT {α:Type} [Inhabited α] {a:List α} {k:Nat} (hk:k<=a.length):(filled a k).length=a.length:=by simp[filled];omega
theorem p8 {α:Type} [Inhabited α] {a:List α} {k:Nat} (hk:k<a.length):(filled a k).set k (at' a (k:Int))=filled a (k+1):=by rw[c7 hk];exact sY hk
theorem p9 {α:Type} [Inhabited α] (a:List α):filled a a.length=a:=by simp[filled]
theorem pn {α:Type} [Inhabited α] (a:List α):filled a 0=List.replicate a.length default:=by simp[filled]
def dh {α:Type} (g:α->Int->α) (c:Int) (l:List α) (k:Int) (i:Nat):List α:=l.mapIdx fun j x=>if j<i then g x (k+c * j) else x
def oJ {α:Type} (g:α->Int->α) (c:Int) (l:List α) (k:Int):List α × Int:=(dh g c l k l.length,k+c * l.length)
section
variable {α:Type} (g:α->Int->α) (c:Int) (l:List α) (k:Int)
theorem nW:dh g c l k 0=l:=by
 apply List.ext_getElem
 ·simp[dh]
 ·intro j h1 h2;simp[dh]
theorem kq (i:Nat):(dh g c l k i).length=l.length:=by simp[dh]
theorem oU {i:Nat} (hi:i<l.length):(dh g c l k i).set i (g l[i] (k+c * i))=dh g c l k (i+1):=by
 apply List.ext_getElem
 ·simp[dh]
 ·intro j h1 h2;simp only[List.getElem_set,dh,List.getElem_mapIdx]
  by_cases hj:i=j
  ·subst hj;simp
  ·rw[if_neg hj]
   by_cases h3:j<i
   ·rw[if_pos h3,if_pos (by omega)]
   ·rw[if_neg h3,if_neg (by omega)]
end
def eA (k:Int):aH:=iE k.toNat
abbrev ea (k:Int):Prop:=0<=k/\k<=1152921504606846976
abbrev qa (c n k:Int):Prop:=0<=k/\n<=1048576/\k+c * n<=1152921504606846976
theorem u3 {α:Type} [Inhabited α] {l:List α} {i:Nat} {x:α} (hi:i<l.length):at' (l.set i x) (i:Int)=x:=by
 rw[c7 (by simpa using hi)];simp
theorem l6 {α:Type} (g:α->Int->α) (c:Int) (l:List α) (k:Int):(oJ g c l k).1.length=l.length:=by simp[oJ,kq]
end Go.Ab.Vg
namespace Go.Ab.Vg
abbrev bh (l:List J) (k:Int):=oJ (fun _ k=>(⟨k,eA (k+1),k+1+1⟩:J)) 3 l k
abbrev ew (l:List J) (k:Int):Prop:=qa 3 l.length k
def fh (a:List J) (k_:Int) (Z:((List J) × Int)->Prop):Prop:=
 aI (σ:=Int × Int × (List J)) (fun (k10,i11,l12) K15=>∀ len16:Int,len16=(l12.length:Int)->∀ c18:Bool,c18=decide (i11<len16)->((c18=true->(0<=i11/\i11<l12.length)/\∀ x25:J,x25=at' l12 i11->∀ l28:List J,l28=l12.set i11.toNat (J.mk k10 x25.name x25.parent)->(cL (k10+1))/\∀ v34:Int,v34=k10+1->(ea v34)/\∀ r37:aH,r37=eA v34->(0<=i11/\i11<l28.length)/\∀ x44:J,x44=at' l28 i11->∀ l47:List J,l47=l28.set i11.toNat (J.mk x44.kind r37 x44.parent)->(cL (v34+1))/\∀ v53:Int,v53=v34+1->(0<=i11/\i11<l47.length)/\∀ x61:J,x61=at' l47 i11->∀ l64:List J,l64=l47.set i11.toNat (J.mk x61.kind x61.name v53)->(cL (v53+1))/\∀ v70:Int,v70=v53+1->(cL (i11+1))/\∀ v73:Int,v73=i11+1->K15 (v70,v73,l64))/\(c18=false->Z (l12,k10)))) (k_,0,a)
theorem pj (l:List J) (k:Int) (h:ew l k):fh l k (fun y=>y=bh l k):=by
 unfold fh;obtain⟨h1,h2,h3⟩:=h;refine aI.up l.length (fun s=>s.2.1) (fun i t=>(k+3 * i,(i:Int),t)) (fun _ _=>rfl) (fun i out=>out=dh (fun _ k=>(⟨k,eA (k+1),k+1+1⟩:J)) 3 l k i) l (by simp) (nW _ _ _ _).symm ?_;rintro i out K hk rfl IH;have hl:=kq (fun _ k=>(⟨k,eA (k+1),k+1+1⟩:J)) 3 l k i;simp only[forall_eq,decide_eq_true_eq,decide_eq_false_iff_not,cL,Int.toNat_natCast,List.length_set];refine⟨fun h4=>⟨by omega,by omega,by simp only[ea];omega,by omega,by omega,by omega,by omega,by omega,?_⟩,fun h4=>?_⟩
 ·have hi:i<l.length:=by omega
  rw[u3 (by rw[hl];exact hi),List.set_set,u3 (by simp only[List.length_set,hl];exact hi),List.set_set];have:=IH hi _ rfl;rw[<- oU _ _ _ _ hi] at this;rw[show k+3 * (((i+1:Nat)):Int)=k+3 * i+1+1+1 by omega] at this;simpa using this
 ·rw[show i=l.length by omega]
  rfl
abbrev dZ (p:aw) (k:Int):aw × Int:=bh p k
abbrev ek (p:aw) (k:Int):Prop:=qa 3 p.length k
def dz (a:aw) (k_:Int) (Z:(aw × Int)->Prop):Prop:=
 (ew a k_)/\∀ r7:(List J) × Int,r7=bh a k_->Z (r7.1,r7.2)
theorem k7 (p:aw) (k:Int) (h:ek p k):dz p k (fun y=>y=dZ p k):=by
 unfold dz;exact⟨h,by rintro _ rfl;rfl⟩
def cr (l:List J) (k:Int):Int:=if (List.range l.length).all (fun i=>decide ((at' l (i:Int)).kind=k+3 * i/\(at' l (i:Int)).name=eA (k+3 * i+1)/\(at' l (i:Int)).parent=k+3 * i+1+1)) then k+3 * l.length else -1
abbrev gz (l:List J) (k:Int):Prop:=qa 3 l.length k
def eZ (a:List J) (k_:Int) (Z:Int->Prop):Prop:=
 aI (σ:=Int × Int) (fun (k5,i6) K9=>∀ kA:Int,kA=(a.length:Int)->∀ c12:Bool,c12=decide (i6<kA)->((c12=true->(0<=i6/\i6<a.length)/\∀ x15:J,x15=at' a i6->∀ c17:Bool,c17=decide (x15.kind ≠ k5)->((c17=true->Z (-1))/\(c17=false->(cL (k5+1))/\∀ v20:Int,v20=k5+1->(0<=i6/\i6<a.length)/\∀ x23:J,x23=at' a i6->(ea v20)/\∀ r27:aH,r27=eA v20->∀ c28:Bool,c28=decide (x15.name ≠ r27)->((c28=true->Z (-1))/\(c28=false->(cL (v20+1))/\∀ v32:Int,v32=v20+1->(0<=i6/\i6<a.length)/\∀ x35:J,x35=at' a i6->∀ c37:Bool,c37=decide (x35.parent ≠ v32)->((c37=true->Z (-1))/\(c37=false->(cL (v32+1))/\∀ v40:Int,v40=v32+1->(cL (i6+1))/\∀ v43:Int,v43=i6+1->K9 (v40,v43))))))))/\(c12=false->Z k5))) (k_,0)
theorem pM (l:List J) (k:Int) (h:gz l k):eZ l k (fun y=>y=cr l k):=by
 unfold eZ;obtain⟨h1,h2,h3⟩:=h;refine aI.up (τ:=Unit) l.length (fun s=>s.2) (fun i _=>(k+3 * i,(i:Int))) (fun _ _=>rfl) (fun i _=>∀ j<i,(at' l (j:Int)).kind=k+3 * j/\(at' l (j:Int)).name=eA (k+3 * j+1)/\(at' l (j:Int)).parent=k+3 * j+1+1) () (by simp) (by simp) ?_;rintro i _ K hk hI IH;simp only[forall_eq,decide_eq_true_eq,decide_eq_false_iff_not,cL];have hno:i<l.length->¬ ((at' l (i:Int)).kind=k+3 * i/\(at' l (i:Int)).name=eA (k+3 * i+1)/\(at' l (i:Int)).parent=k+3 * i+1+1)->cr l k = -1:=fun hi hn=>by
  rw[cr,if_neg];rw[List.all_eq_true];intro h6;exact hn (by simpa using h6 i (List.mem_range.2 hi))
 refine⟨fun h4=>⟨by omega,fun h5=>?_,fun h5=>⟨by omega,by omega,by simp only[ea];omega,fun h6=>?_,fun h6=>⟨by omega,by omega,fun h7=>?_,fun h7=>⟨by omega,by omega,?_⟩⟩⟩⟩,fun h4=>?_⟩
 ·exact (hno (by omega) fun h=>h5 h.1).symm
 ·exact (hno (by omega) fun h=>h6 h.2.1).symm
 ·exact (hno (by omega) fun h=>h7 h.2.2).symm
 ·have hi:i<l.length:=by omega
  have:=IH hi () (fun j hj=>by
   rcases Nat.lt_or_ge j i with h8 | h8
   ·exact hI j h8
   ·rw[show j=i by omega];exact⟨by simpa using h5,by simpa using h6,by simpa using h7⟩)
  rw[show k+3 * (((i+1:Nat)):Int)=k+3 * i+1+1+1 by omega] at this;simpa using this
 ·have hi:i=l.length:=by omega
  rw[cr,if_pos,hi];rw[List.all_eq_true];intro j hj;simpa using hI j (by have:=List.mem_range.1 hj;omega)
theorem nt (l:List J) (k:Int):cr (bh l k).1 k=(bh l k).2:=by
 have hl:(bh l k).1.length=l.length:=l6 _ _ _ _;rw[cr,if_pos,hl]
 ·rfl
 ·rw[List.all_eq_true];intro j hj;have hj:=List.mem_range.1 hj;rw[c7 hj];rw[hl] at hj;simp[bh,oJ,dh,hj]
abbrev fC (a:J):=a
def gb (a:J) (Z:J->Prop):Prop:=
 Z a
theorem od (a:J):gb a (fun y=>y=fC a):=rfl
abbrev jh (a:List J):=a
abbrev dx (a:List J):Prop:=a.length<=1048576
def dW (a:List J) (Z:(List J)->Prop):Prop:=
 ∀ gV:Int,gV=(a.length:Int)->(0<=gV/\gV<=1073741824)/\∀ l5:List J,l5=List.replicate gV.toNat default->aI (σ:=Int × (List J)) (fun (i16,l17) K21=>∀ len22:Int,len22=(a.length:Int)->∀ c24:Bool,c24=decide (i16<len22)->((c24=true->(0<=i16/\i16<a.length)/\∀ x27:J,x27=at' a i16->∀ r29:J,r29=fC x27->(0<=i16/\i16<l17.length)/\∀ x35:J,x35=at' l17 i16->∀ l38:List J,l38=l17.set i16.toNat r29->(cL (i16+1))/\∀ v45:Int,v45=i16+1->K21 (v45,l38))/\(c24=false->Z l17))) (0,l5)
theorem mn (a:List J) (h:dx a):dW a (fun y=>y=jh a):=by
 unfold dW;simp only[dx] at h;simp only[forall_eq,Int.toNat_natCast];refine⟨by omega,aI.qy a.length (fun k out=>out=filled a k) _ (pn a).symm ?_⟩;rintro k out K hk rfl IH;have hl:=qT hk;simp only[decide_eq_true_eq,decide_eq_false_iff_not,cL,Int.toNat_natCast];refine⟨fun h1=>⟨by omega,by omega,by omega,IH (by omega) _ (p8 (by omega))⟩,fun h1=>?_⟩;rw[show k=a.length by omega];exact p9 a
abbrev toProcess (p:aw):aw:=p
abbrev ck (p:aw):Prop:=p.length<=1048576
def eB (a:aw) (Z:aw->Prop):Prop:=
 (dx a)/\∀ r8:List J,r8=jh a->Z r8
theorem nx (p:aw) (h:ck p):eB p (fun y=>y=toProcess p):=by
 unfold eB;exact⟨h,by rintro _ rfl;rfl⟩
end Go.Ab.Vg
namespace Go.Ab
def kindOf (s:aH):Nat × aH:=
 if (word 0).isPrefixOf s then (1,s.drop (word 0).length) else if (word 1).isPrefixOf s then (2,s.drop (word 1).length) else if (word 2).isPrefixOf s then (3,s.drop (word 2).length) else (0,s)
def opn (k:Nat):aH:=if k=0 then [91] else [46,40]
def cls (k:Nat):aH:=if k=0 then [93] else [41]
mutual
def bM (chk:Bool):Nat->Int->aH->aw->Option (aH × aw)
 | 0,_,_,_=>none
 | g+1,parent,s,l=>
  if (chk && !ef ((kindOf s).2.takeWhile lower)) || !(opn (kindOf s).1).isPrefixOf ((kindOf s).2.dropWhile lower) || l.length == 8 then none else
  match ij chk g l.length (((kindOf s).2.dropWhile lower).drop (opn (kindOf s).1).length) (l++[⟨(kindOf s).1,(kindOf s).2.takeWhile lower,parent⟩]) with
  | none=>none
  | some (r,l2)=>if (cls (kindOf s).1).isPrefixOf r then some (r.drop 1,l2) else none
def ij (chk:Bool):Nat->Int->aH->aw->Option (aH × aw)
 | 0,_,_,_=>none
 | g+1,parent,s,l=>
  if List.isPrefixOf [48] s then some (s.drop 1,l) else
  match bM chk g parent s l with
  | none=>none
  | some (r,l2)=>c4 chk g parent r l2
def c4 (chk:Bool):Nat->Int->aH->aw->Option (aH × aw)
 | 0,_,_,_=>none
 | g+1,parent,s,l=>
  if List.isPrefixOf [124] s then
   match bM chk g parent (s.drop 1) l with
   | none=>none
   | some (r,l2)=>c4 chk g parent r l2
  else some (s,l)
end
theorem nd (s:aH):(kindOf s).1<=3:=by
 unfold kindOf
 split
 ·simp
 ·split
  ·simp
  ·split<;>simp
theorem jb (s:aH):(kindOf s).2.length<=s.length:=by
 unfold kindOf
 split
 ·simp
 ·split
  ·simp
  ·split<;>simp
def iX (chk:Bool) (parent:Int) (l l2:aw):Prop:=
 ∃ m,l2=l++m/\l2.length<=8/\∀ (i:Nat) (x:J),m[i]?=some x->0<=x.kind/\x.kind<=3/\(x.parent=parent\/(l.length:Int)<=x.parent/\x.parent<l.length+i)/\(chk=true->ef x.name=true)
theorem iX.refl {chk:Bool} {parent:Int} {l:aw} (hl:l.length<=8):iX chk parent l l:=⟨[],by simp,hl,by simp⟩
theorem iX.trans {chk:Bool} {parent:Int} {l l2 l3:aw} (h:iX chk parent l l2) (k:iX chk parent l2 l3):iX chk parent l l3:=by
 obtain⟨m,rfl,h2,h3⟩:=h;obtain⟨m',rfl,k2,k3⟩:=k;refine⟨m++m',by simp,by omega,fun i x hx=>?_⟩;rcases Nat.lt_or_ge i m.length with hi | hi
 ·rw[List.getElem?_append_left hi] at hx;exact h3 i x hx
 ·rw[List.getElem?_append_right hi] at hx;obtain⟨a1,a2,a3,a4⟩:=k3 _ x hx;refine⟨a1,a2,?_,a4⟩;rcases a3 with h | h
  ·exact .inl h
  ·simp only[List.length_append] at h;exact .inr ⟨by omega,by omega⟩
theorem iX.node {chk:Bool} {parent:Int} {x:J} {l l2:aw} (hx:x.parent=parent) (hk:0<=x.kind/\x.kind<=3) (hn:chk=true->ef x.name=true) (k:iX chk l.length (l++[x]) l2):iX chk parent l l2:=by
 obtain⟨m',rfl,k2,k3⟩:=k;refine⟨[x]++m',by simp,by simpa using k2,fun i y hy=>?_⟩;cases i with
 | zero=>simp at hy;subst hy;exact⟨hk.1,hk.2,.inl hx,hn⟩
 | succ i=>
  simp at hy;obtain⟨a1,a2,a3,a4⟩:=k3 _ y hy;simp only[List.length_append,List.length_cons,List.length_nil] at a3;refine⟨a1,a2,.inr ?_,a4⟩;rcases a3 with h | h<;>omega
theorem cQ (chk:Bool):∀ g parent s l s2 l2,l.length<=8 ->
  (bM chk g parent s l=some (s2,l2)->iX chk parent l l2/\l.length<l2.length/\s2.length<=s.length) /\
  (ij chk g parent s l=some (s2,l2)->iX chk parent l l2/\s2.length<=s.length) /\
  (c4 chk g parent s l=some (s2,l2)->iX chk parent l l2/\s2.length<=s.length)
 | 0,parent,s,l,s2,l2,_=>by simp[bM,ij,c4]
 | g+1,parent,s,l,s2,l2,hl=>by
  refine⟨fun h=>?_,fun h=>?_,fun h=>?_⟩
  ·rw[bM] at h
   split at h
   ·cases h
   ·rename_i hc
    simp only[Bool.or_eq_true,not_or,Bool.and_eq_true,not_and,beq_iff_eq,Bool.not_eq_true',Bool.not_eq_true] at hc
    split at h
    ·cases h
    ·rename_i r l3 hr
     split at h
     ·cases h;have hl8:l.length<8:=by have:=hc.2;omega
      obtain⟨h1,h2⟩:=(cQ chk g _ _ _ _ _ (by simp;omega)).2.1 hr;obtain⟨m,e1,_⟩:=id h1;refine⟨iX.node rfl ⟨by simp,?_⟩ (fun hk=>?_) h1,by rw[e1];simp,?_⟩
      ·have:=nd s;simp;omega
      ·have:=hc.1.1 hk;simpa using this
      ·have h4:=jb s;have h5:((kindOf s).2.dropWhile lower).length<=(kindOf s).2.length:=(List.dropWhile_suffix _).length_le;simp at h2 ⊢;omega
     ·cases h
  ·rw[ij] at h
   split at h
   ·cases h;exact⟨.refl hl,by simp⟩
   ·split at h
    ·cases h
    ·rename_i r l3 hr
     obtain⟨h1,_,h2⟩:=(cQ chk g _ _ _ _ _ hl).1 hr;obtain⟨h3,h4⟩:=(cQ chk g _ _ _ _ _ h1.choose_spec.2.1).2.2 h;exact⟨h1.trans h3,by omega⟩
  ·rw[c4] at h
   split at h
   ·split at h
    ·cases h
    ·rename_i r l3 hr
     obtain⟨h1,_,h2⟩:=(cQ chk g _ _ _ _ _ hl).1 hr;obtain⟨h3,h4⟩:=(cQ chk g _ _ _ _ _ h1.choose_spec.2.1).2.2 h;simp at h2;exact⟨h1.trans h3,by omega⟩
   ·cases h;exact⟨.refl hl,by simp⟩
def kZ (l:aw) (k:Nat):Prop:=∃ x ∈ l.drop k,ef x.name=false
def uG (a b:Option (aH × aw)) (k:Nat):Prop:=(∃ x,a=some x/\b=some x)\/(a=none/\(b=none\/∃ s2 l2,b=some (s2,l2)/\kZ l2 k))
theorem kZ.of {parent:Int} {l l2:aw} {k:Nat} (h:kZ l k) (ha:iX false parent l l2):kZ l2 k:=by
 obtain⟨x,hx,hn⟩:=h;obtain⟨m,rfl,_⟩:=ha;refine⟨x,?_,hn⟩;rw[List.drop_append];simp[hx]
theorem kZ.le {l:aw} {k k':Nat} (h:kZ l k) (hk:k'<=k):kZ l k':=by
 obtain⟨x,hx,hn⟩:=h;refine⟨x,?_,hn⟩;have:l.drop k=(l.drop k').drop (k - k'):=by rw[List.drop_drop];congr 1;omega
 rw[this] at hx;exact List.mem_of_mem_drop hx
theorem oy:∀ g parent s l,l.length<=8 ->
  uG (bM true g parent s l) (bM false g parent s l) l.length/\uG (ij true g parent s l) (ij false g parent s l) l.length/\uG (c4 true g parent s l) (c4 false g parent s l) l.length
 | 0,parent,s,l,_=>by simp[bM,ij,c4,uG]
 | g+1,parent,s,l,hl=>by
  have loop:∀ (s':aH),uG (match bM true g parent s' l with | none=>none | some (r,l2)=>c4 true g parent r l2) (match bM false g parent s' l with | none=>none | some (r,l2)=>c4 false g parent r l2) l.length:=by
   intro s';rcases (oy g parent s' l hl).1 with ⟨⟨r,l2⟩,h1,h2⟩ | ⟨h1,h2 | ⟨r,l2,h2,h3⟩⟩
   ·rw[h1,h2];have hlt:=((cQ true g parent s' l r l2 hl).1 h1)
    have hl2:=hlt.1.choose_spec.2.1;have hlt:=hlt.2.1;rcases (oy g parent r l2 hl2).2.2 with h | ⟨h,h' | ⟨r',l3,h',h''⟩⟩
    ·exact .inl h
    ·exact .inr ⟨h,.inl h'⟩
    ·exact .inr ⟨h,.inr ⟨r',l3,h',h''.le (by omega)⟩⟩
   ·rw[h1,h2];exact .inr ⟨rfl,.inl rfl⟩
   ·rw[h1,h2];have hl2:=((cQ false g parent s' l r l2 hl).1 h2).1.choose_spec.2.1;cases h4:c4 false g parent r l2 with
    | none=>exact .inr ⟨rfl,.inl h4⟩
    | some x=>exact .inr ⟨rfl,.inr ⟨x.1,x.2,h4,h3.of ((cQ false g parent r l2 x.1 x.2 hl2).2.2 h4).1⟩⟩
  refine⟨?_,?_,?_⟩
  ·rw[bM,bM]
   by_cases hc:(!(opn (kindOf s).1).isPrefixOf ((kindOf s).2.dropWhile lower) || l.length == 8)=true
   ·rw[if_pos (by simp only[Bool.or_assoc,hc,Bool.or_true]),if_pos (by simp only[Bool.or_assoc,hc,Bool.or_true])];exact .inr ⟨rfl,.inl rfl⟩
   ·have hc':(!(opn (kindOf s).1).isPrefixOf ((kindOf s).2.dropWhile lower) || l.length == 8)=false:=by simpa using hc
    have hl8:l.length<8:=by simp at hc';omega
    rw[Bool.or_assoc,hc',Bool.or_assoc,hc'];cases hn:ef ((kindOf s).2.takeWhile lower)
    ·simp only[Bool.not_false,Bool.and_true,Bool.or_false,Bool.true_and,Bool.false_and,if_true,if_false];refine .inr ⟨rfl,?_⟩;cases h4:ij false g l.length (((kindOf s).2.dropWhile lower).drop (opn (kindOf s).1).length) (l++[⟨(kindOf s).1,(kindOf s).2.takeWhile lower,parent⟩]) with
     | none=>exact .inl (by simp)
     | some x=>
      obtain⟨r,l2⟩:=x;simp only[Bool.false_eq_true,if_false]
      split
      ·refine .inr ⟨_,l2,rfl,?_⟩;obtain⟨m,e,_⟩:=((cQ false g _ _ _ _ _ (by simp;omega)).2.1 h4).1;refine⟨⟨(kindOf s).1,(kindOf s).2.takeWhile lower,parent⟩,?_,hn⟩;rw[e];simp
      ·exact .inl rfl
    ·simp only[Bool.not_true,Bool.and_false,Bool.or_false,if_false,Bool.false_eq_true];rcases (oy g l.length (((kindOf s).2.dropWhile lower).drop (opn (kindOf s).1).length) (l++[⟨(kindOf s).1,(kindOf s).2.takeWhile lower,parent⟩]) (by simp;omega)).2.1 with ⟨⟨r,l2⟩,h1,h2⟩ | ⟨h1,h2 | ⟨r,l2,h2,h3⟩⟩
     ·rw[h1,h2];simp only
      split
      ·exact .inl ⟨_,rfl,rfl⟩
      ·exact .inr ⟨rfl,.inl rfl⟩
     ·rw[h1,h2];exact .inr ⟨rfl,.inl rfl⟩
     ·rw[h1,h2];simp only
      split
      ·exact .inr ⟨rfl,.inr ⟨_,_,rfl,h3.le (by simp)⟩⟩
      ·exact .inr ⟨rfl,.inl rfl⟩
  ·rw[ij,ij]
   split
   ·exact .inl ⟨_,rfl,rfl⟩
   ·exact loop s
  ·rw[c4,c4]
   split
   ·exact loop _
   ·exact .inl ⟨_,rfl,rfl⟩
def parse (s:aH):aw × Bool:=
 match ij false 40 (-1) s [] with
 | none=>([],false)
 | some (r,l)=>if r=[]/\dm l=true/\bb l (l.length+1) (-1)=s then (l,true) else ([],false)
theorem jw {l:aw} (h:iX true (-1) [] l):dm l=true:=by
 obtain⟨m,e,h2,h3⟩:=h;simp only[List.nil_append] at e;subst e;unfold dm;simp only[Bool.and_eq_true,List.all_eq_true,List.mem_range,decide_eq_true_eq];refine⟨fun i hi=>?_,by omega⟩;have hx:l[i]?=some l[i]:=List.getElem?_eq_getElem hi;obtain⟨a1,a2,a3,a4⟩:=h3 i _ hx;have hg:l.getD i default=l[i]:=by simp[hi]
 simp only[dw,hg,within,Bool.and_eq_true,decide_eq_true_eq];refine⟨⟨⟨a1,a2⟩,a4 rfl⟩,?_⟩;simp only[List.length_nil] at a3;rcases a3 with h | h<;>omega
theorem sK (s:aH):parse s=match ij true 40 (-1) s [] with
  | none=>([],false)
  | some (r,l)=>if r=[]/\bb l (l.length+1) (-1)=s then (l,true) else ([],false):=by
 unfold parse;rcases (oy 40 (-1) s [] (by simp)).2.1 with ⟨⟨r,l⟩,h1,h2⟩ | ⟨h1,h2 | ⟨r,l,h2,h3⟩⟩
 ·have hg:=jw ((cQ true 40 _ _ _ _ _ (by simp)).2.1 h1).1;rw[h1,h2];simp only[hg,true_and]
 ·rw[h1,h2]
 ·rw[h1,h2];have hg:dm l=false:=by
   obtain⟨x,hx,hn⟩:=h3;simp only[List.length_nil,List.drop_zero] at hx;obtain⟨i,hi,rfl⟩:=List.getElem_of_mem hx;refine dP hi ?_;have hgd:l.getD i default=l[i]:=by simp[hi]
   simp only[dw,hgd,hn,Bool.and_false,Bool.false_and]
  simp only[hg,Bool.false_eq_true,false_and,and_false,if_false]
end Go.Ab
namespace Go.Ab.Vg
end Go.Ab.Vg
namespace Go.Ab
open Go.Proofs
theorem e56:aV prog 56:=aV.of func56 (by kernel_rfl) rfl
theorem e57:aV prog 57:=aV.of func57 (by kernel_rfl) rfl
theorem e45:aV prog 45:=aV.of func45 (by kernel_rfl) rfl
theorem e67:aV prog 67:=aV.of func67 (by kernel_rfl) rfl
theorem e68:aV prog 68:=aV.of func68 (by kernel_rfl) rfl
theorem e39:aV prog 39:=aV.of func39 (by kernel_rfl) rfl
theorem e32:aV prog 32:=aV.of func32 (by kernel_rfl) rfl
theorem tk (p:aw) (k:Int) (hp:p.length<=1048576):aA prog 67 [bq false p,int k] (fun r=>r=bool (within k 0 ((p.length:Int) - 1))):=by
 refine aA.of func67 rfl ntmps67 (by simp) fun Q hQ=>?_
 refine zE fun _ V=>?_
 simp [bq];apply V;refine zE fun _ V=>?_
 simp [show -9223372036854775808 <= (p.length : Int) - 1 by omega, show (p.length : Int) - 1 <= 9223372036854775807 by omega];refine zA (fI k 0 ((p.length:Int) - 1)) e30 (.cons (.v _ _ _) (.cons (.v _ _ _) (.cons (.v _ _ _) .nil))) (by simp) ?_;rintro _ rfl;simp;apply V;exact I.ret func67 (aG.one results67) (hQ _ _ _ _ (.v _ _ _) rfl)
theorem sU (p:aw) (k:Int) (hp:p.length<=1048576):aA prog 56 [bq false p,int k] (fun r=>r=bool (within k 0 ((p.length:Int) - 1))):=by
 refine aA.of func56 rfl ntmps56 (by simp) fun Q hQ=>?_
 refine zE fun _ V=>?_
 simp [bq];apply V;refine zE fun _ V=>?_
 simp [show -9223372036854775808 <= (p.length : Int) - 1 by omega, show (p.length : Int) - 1 <= 9223372036854775807 by omega];refine zA (kL k 0 ((p.length:Int) - 1)) e24 (.cons (.v _ _ _) (.cons (.v _ _ _) (.cons (.v _ _ _) .nil))) (by simp) ?_;rintro _ rfl;simp;apply V;exact I.ret func56 (aG.one results56) (hQ _ _ _ _ (.v _ _ _) rfl)
def eb (p:aw):Nat->Int->Bool
 | 0,_=>false
 | d+1,k=>if k<0 then false else if (p.getD k.toNat default).kind ≠ 0 then true else eb p d (p.getD k.toNat default).parent
def idle (p:aw) (node:Nat):Bool:=eb p 9 (p.getD node default).parent
theorem iS {p:aw} {d:Nat} {k:Int} (hk:k<0):eb p d k=false:=by
 cases d<;>simp[eb,hk]
theorem mD {p:aw} (hp:Valid p) (node:Nat) (hn:node<p.length):aA prog 68 [bq false p,int node] (fun r=>r=bool (idle p node)):=by
 have hp8:=hp.len;have hx:p.getD node default=p[node]:=by simp[hn]
 have hup:=hp.up node hn;rw[hx] at hup;refine aA.of func68 rfl ntmps68 (by simp) fun Q hQ=>?_
 refine zE fun _ V=>?_
 simp [bq];apply V;refine zS fun _ V=>?_
 simp [hn, J.cells];apply V;refine I.block (I.mR (fun m O H n=>O 2 = .ptr (0,2) 1 0 0/\H (0,2)=some ⟨1,[[.list false (p.map J.cells)]]⟩/\∃ k:Int,O 5=int k /\ -1<=k/\k<p.length/\m=(k+1).toNat/\∃ d:Nat,k<d/\eb p d k=idle p node) (p[node].parent+1).toNat ?_ ?_)
 ·refine⟨by simp,by simp[J.cells],p[node].parent,by simp,hup.1,by omega,rfl,9,by omega,?_⟩;rw[idle,hx]
 ·rintro m O H n ⟨h2,hH,k,h5,hk0,hk1,hm,d,hd,hid⟩ IH;refine zS fun _ V=>?_
  simp [h5];apply V;refine I.ite rfl (fun hc1 => ?_) (fun hc1 => ?_)
  ·simp only[decide_eq_true_eq] at hc1;obtain⟨j,rfl⟩:∃ j:Nat,k=j:=⟨k.toNat,by omega⟩
   have hj:j<p.length:=by omega
   have hxj:p.getD j default=p[j]:=by simp[hj]
   have hupj:=hp.up j hj;rw[hxj] at hupj;obtain⟨d',rfl⟩:∃ d',d=d'+1:=⟨d - 1,by omega⟩
   have hid2:=hid;rw[eb,if_neg (by omega),Int.toNat_natCast,hxj] at hid2;apply zK;apply I.block;refine zE fun _ V=>?_
   simp [h2, hH, h5, hj, J.cells];apply V;refine I.ite rfl (fun hc2 => ?_) (fun hc2 => ?_)
   ·simp at hc2;refine zE fun _ V=>?_
    simp;apply V;refine I.ret func68 (aG.one results68) (hQ _ _ _ _ (.v _ _ _) ?_);rw[if_pos hc2] at hid2;rw[<- hid2]
   ·simp at hc2;rw[if_neg (by simp[hc2])] at hid2;apply I.skip;refine zI fun _ V=>?_
    simp [h2, hH, h5, hj, J.cells];apply V;refine IH (p[j].parent+1).toNat _ _ _ (by omega) ?_;exact⟨by simp[h2],by simp[hH],p[j].parent,by simp,hupj.1,by omega,rfl,d',by omega,hid2⟩
  ·simp only[decide_eq_false_iff_not] at hc1;refine I.exit rfl ?_;refine zE fun _ V=>?_
   simp;apply V;refine I.ret func68 (aG.one results68) (hQ _ _ _ _ (.v _ _ _) ?_);rw[<- hid,iS (by omega)]
theorem qQ {p:aw} (hp:Valid p) (node:Nat) (hn:node<p.length):aA prog 57 [bq false p,int node] (fun r=>r=bool (idle p node)):=by
 have hp8:=hp.len;have hx:p.getD node default=p[node]:=by simp[hn]
 have hup:=hp.up node hn;rw[hx] at hup;refine aA.of func57 rfl ntmps57 (by simp) fun Q hQ=>?_
 refine zE fun _ V=>?_
 simp [bq];apply V;refine zS fun _ V=>?_
 simp [hn, J.cells];apply V;refine I.block (I.mR (fun m O H n=>O 2 = .ptr (0,2) 1 0 0/\H (0,2)=some ⟨1,[[.list false (p.map J.cells)]]⟩/\∃ k:Int,O 1=int k /\ -1<=k/\k<p.length/\m=(k+1).toNat/\∃ d:Nat,k<d/\eb p d k=idle p node) (p[node].parent+1).toNat ?_ ?_)
 ·refine⟨by simp,by simp[J.cells],p[node].parent,by simp,hup.1,by omega,rfl,9,by omega,?_⟩;rw[idle,hx]
 ·rintro m O H n ⟨h2,hH,k,h5,hk0,hk1,hm,d,hd,hid⟩ IH;refine zS fun _ V=>?_
  simp [h5];apply V;refine I.ite rfl (fun hc1 => ?_) (fun hc1 => ?_)
  ·simp only[decide_eq_true_eq] at hc1;obtain⟨j,rfl⟩:∃ j:Nat,k=j:=⟨k.toNat,by omega⟩
   have hj:j<p.length:=by omega
   have hxj:p.getD j default=p[j]:=by simp[hj]
   have hupj:=hp.up j hj;rw[hxj] at hupj;obtain⟨d',rfl⟩:∃ d',d=d'+1:=⟨d - 1,by omega⟩
   have hid2:=hid;rw[eb,if_neg (by omega),Int.toNat_natCast,hxj] at hid2;apply zK;apply I.block;refine zE fun _ V=>?_
   simp [h2, hH, h5, hj, J.cells];apply V;refine I.ite rfl (fun hc2 => ?_) (fun hc2 => ?_)
   ·simp at hc2;refine zE fun _ V=>?_
    simp;apply V;refine I.ret func57 (aG.one results57) (hQ _ _ _ _ (.v _ _ _) ?_);rw[if_pos hc2] at hid2;rw[<- hid2]
   ·simp at hc2;rw[if_neg (by simp[hc2])] at hid2;apply I.skip;refine zI fun _ V=>?_
    simp [h2, hH, h5, hj, J.cells];apply V;refine IH (p[j].parent+1).toNat _ _ _ (by omega) ?_;exact⟨by simp[h2],by simp[hH],p[j].parent,by simp,hupj.1,by omega,rfl,d',by omega,hid2⟩
  ·simp only[decide_eq_false_iff_not] at hc1;refine I.exit rfl ?_;refine zE fun _ V=>?_
   simp;apply V;refine I.ret func57 (aG.one results57) (hQ _ _ _ _ (.v _ _ _) ?_);rw[<- hid,iS (by omega)]
end Go.Ab
