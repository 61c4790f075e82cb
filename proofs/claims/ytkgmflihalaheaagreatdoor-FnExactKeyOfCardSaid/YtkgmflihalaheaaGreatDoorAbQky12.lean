/- Merged texts (12 of 16) of the proof that ends in Kyy: Kt Kw Kgw L2kw ae. -/
import Derived.Test.YtkgmflihalaheaaGreatDoorAbQky11
open Go.Proofs.Tryz
set_option linter.unusedSectionVars false
set_option linter.unusedSimpArgs false
set_option linter.unusedVariables false
namespace Go.Ab.Vg
end Go.Ab.Vg
namespace Go.Ab.Vg
open Go.Proofs Go.RowKit
abbrev dn (n:Int):bc:=Lib.itoa n
theorem gE:∀ (k u:Nat),0<k->u<10 ^ k->(Lib.decDigits u).length<=k
 | k+1,u,_,h=>by
  rw[Lib.decDigits]
  split
  ·simp
  ·rename_i hu
   rcases Nat.eq_zero_or_pos k with rfl | hk
   ·simp at h;omega
   ·have:=gE k (u / 10) hk (by rw[Nat.pow_succ] at h;omega);simp;omega
theorem ma {n:Int} (h : -1000000<=n/\n<=1000000):(dn n).length<=8:=by
 simp only[dn,Lib.itoa]
 split
 ·have:=gE 7 n.natAbs (by omega) (by omega);simp;omega
 ·have:=gE 7 n.toNat (by omega) (by omega);omega
theorem cQ {n:Int} (h : -100<n/\n<100):(dn n).length<=3:=by
 simp only[dn,Lib.itoa]
 split
 ·have:=gE 2 n.natAbs (by omega) (by omega);simp;omega
 ·have:=gE 2 n.toNat (by omega) (by omega);omega
theorem cE {α:Type} {f:α->bc} {k:Nat}:∀ {l:List α},(∀ x ∈ l,(f x).length<=k)->(l.flatMap f).length<=k * l.length
 | [],_=>by simp
 | x::l,h=>by
  have h1:=h x (by simp);have h2:=cE (f:=f) (l:=l) fun y hy=>h y (by simp[hy])
  simp only[List.flatMap_cons,List.length_append,List.length_cons,Nat.mul_succ];omega
abbrev sI (n:Int):bc:=dn n
abbrev dC (n:Int):Prop:=bu n
def ov (n_:Int) (Z:bc->Prop):Prop:=
 (bu n_)/\∀ r3:bc,r3=dn n_->Z r3
theorem Eg (n:Int) (h:dC n):ov n (fun y=>y=sI n):=by
 unfold ov;simp only[forall_eq];exact⟨h,trivial⟩
abbrev ny (l:List Int):Prop:=l.length<=1048576/\∀ n ∈ l,-1000000<=n/\n<=1000000
def dV (l:List Int):bc:=l.flatMap fun n=>32::dn n
theorem qw {l:List Int} (h:ny l):(dV l).length<=9 * l.length:=cE fun x hx=>by have:=ma (h.2 x hx);simp;omega
def jh (w:bc) (l:List Int):bc:=w++dV l
abbrev kr (w:bc) (l:List Int):Prop:=w.length<=1048576/\ny l
def mc (word:bc) (l:List Int) (Z:bc->Prop):Prop:=
 ∀ bI:Int,bI=(l.length:Int)->aL (σ:=bc × Int) (fun (word7,v8) K11=>∀ c12:Bool,c12=decide (v8<bI)->((c12=true->(0<=v8/\v8<l.length)/\∀ x15:Int,x15=at' l v8->(dC x15)/\∀ r18:bc,r18=sI x15->([32].length+r18.length<4611686018427387904)/\∀ v20:bc,v20=[32]++r18->(word7.length+v20.length<4611686018427387904)/\∀ v23:bc,v23=word7++v20->(bu (v8+1))/\∀ v26:Int,v26=v8+1->K11 (v23,v26))/\(c12=false->Z word7))) (word,0)
theorem pX {l:List Int} {k:Nat} (hk:k<l.length):dV (l.take (k+1))=dV (l.take k)++(32::dn (at' l (k:Int))):=by
 rw[dV,dV,List.take_succ_eq_append_getElem hk,List.flatMap_append,bm hk];simp
theorem po {l:List Int} (h:ny l) (k:Nat):ny (l.take k):=⟨by have:=h.1;simp;omega,fun n hn=>h.2 n (List.mem_of_mem_take hn)⟩
theorem CI (w:bc) (l:List Int) (h:kr w l):mc w l (fun y=>y=jh w l):=by
 unfold mc;obtain⟨h1,h2⟩:=h;simp only[forall_eq,decide_eq_true_eq,decide_eq_false_iff_not,sI];refine aL.Dc l.length (fun k t=>t=w++dV (l.take k)) _ (by simp[dV]) ?_;rintro k _ K hk rfl IH;dsimp only;have hl:=qw (po h2 k);have hl2:(l.take k).length=k:=by simp;omega
 refine⟨fun hc=>?_,fun hc=>?_⟩
 ·have hk2:k<l.length:=by omega
  have hx:=h2.2 _ (at_mem (l:=l) (i:=(k:Int)) (by omega));have hx2:=ma hx;refine⟨⟨by omega,by omega⟩,by simp only[dC,bu];omega,by simp;omega,by simp;omega,by simp only[bu];omega,IH hk2 _ ?_⟩;rw[pX hk2];simp
 ·obtain rfl:k=l.length:=by omega
  rw[List.take_length];rfl
def Cr (s:bc):Int:=s.foldl (fun h c=>(41 * h+(c.toNat:Int)+1).tmod 999979) 7
abbrev iC (s:bc):Prop:=s.length<=1073741824
theorem wy:∀ (s:bc) (h:Int),0<=h/\h<999979->0<=s.foldl (fun h c=>(41 * h+(c.toNat:Int)+1).tmod 999979) h/\s.foldl (fun h c=>(41 * h+(c.toNat:Int)+1).tmod 999979) h<999979
 | [],h,E=>E
 | c::s,h,E=>by
  rw[List.foldl_cons];refine wy s _ ⟨Int.tmod_nonneg _ (by omega),Int.tmod_lt_of_pos _ (by omega)⟩
theorem uT {s:bc} {k:Nat} (hk:k<s.length):(s.take (k+1)).foldl (fun h c=>(41 * h+(c.toNat:Int)+1).tmod 999979) 7=(41 * (s.take k).foldl (fun h c=>(41 * h+(c.toNat:Int)+1).tmod 999979) 7+((at' s (k:Int)).toNat:Int)+1).tmod 999979:=by
 rw[List.take_succ_eq_append_getElem hk,List.foldl_append,bm hk];rfl
def oM (s:bc) (Z:Int->Prop):Prop:=
 ∀ bI:Int,bI=(s.length:Int)->aL (σ:=Int × Int) (fun (h7,v8) K11=>∀ c12:Bool,c12=decide (v8<bI)->((c12=true->(bu (41 * h7))/\∀ v15:Int,v15=41 * h7->(0<=v8/\v8<s.length)/\∀ c18:UInt8,c18=at' s v8->(bu (c18.toNat:Int))/\(bu (v15+(c18.toNat:Int)))/\∀ v23:Int,v23=v15+(c18.toNat:Int)->(bu (v23+1))/\∀ v26:Int,v26=v23+1->((999979:Int) ≠ 0)/\∀ v29:Int,v29=v26.tmod 999979->(bu (v8+1))/\∀ v32:Int,v32=v8+1->K11 (v29,v32))/\(c12=false->Z h7))) (7,0)
theorem Di (s:bc) (h:iC s):oM s (fun y=>y=Cr s):=by
 unfold oM;simp only[forall_eq,decide_eq_true_eq,decide_eq_false_iff_not];refine aL.Dc s.length (fun k t=>t=(s.take k).foldl (fun h c=>(41 * h+(c.toNat:Int)+1).tmod 999979) 7) _ (by simp) ?_;rintro k _ K hk rfl IH;dsimp only;have hb:=wy (s.take k) 7 (by omega);have hu:=UInt8.toNat_lt (at' s (k:Int));refine⟨fun hc=>?_,fun hc=>?_⟩
 ·have hk2:k<s.length:=by omega
  refine⟨by simp only[bu];omega,⟨by omega,by omega⟩,by simp only[bu];omega,by simp only[bu];omega,by simp only[bu];omega,by omega,by simp only[bu];omega,IH hk2 _ (uT hk2).symm⟩
 ·obtain rfl:k=s.length:=by omega
  rw[List.take_length];rfl
abbrev sumL (s:bc):Int:=Cr s
abbrev ll (s:bc):Prop:=iC s
def oD (s:bc) (Z:Int->Prop):Prop:=
 aL (σ:=Int × Int) (fun (n5,i6) K9=>∀ ja:Int,ja=(s.length:Int)->∀ c12:Bool,c12=decide (i6<ja)->((c12=true->(bu (41 * n5))/\∀ v15:Int,v15=41 * n5->(0<=i6/\i6<s.length)/\∀ c18:UInt8,c18=at' s i6->(bu (c18.toNat:Int))/\(bu (v15+(c18.toNat:Int)))/\∀ v23:Int,v23=v15+(c18.toNat:Int)->(bu (v23+1))/\∀ v26:Int,v26=v23+1->((999979:Int) ≠ 0)/\∀ v29:Int,v29=v26.tmod 999979->(bu (i6+1))/\∀ v32:Int,v32=i6+1->K9 (v29,v32))/\(c12=false->Z n5))) (7,0)
theorem DK (s:bc) (h:ll s):oD s (fun y=>y=sumL s):=by
 unfold oD;simp only[forall_eq,decide_eq_true_eq,decide_eq_false_iff_not];refine aL.Dc s.length (fun k t=>t=(s.take k).foldl (fun h c=>(41 * h+(c.toNat:Int)+1).tmod 999979) 7) _ (by simp) ?_;rintro k _ K hk rfl IH;dsimp only;have hb:=wy (s.take k) 7 (by omega);have hu:=UInt8.toNat_lt (at' s (k:Int));have hp:s.length<=1073741824:=h;refine⟨fun hc=>?_,fun hc=>?_⟩
 ·have hk2:k<s.length:=by omega
  refine⟨by simp only[bu];omega,⟨by omega,by omega⟩,by simp only[bu];omega,by simp only[bu];omega,by simp only[bu];omega,by omega,by simp only[bu];omega,IH hk2 _ (uT hk2).symm⟩
 ·obtain rfl:k=s.length:=by omega
  rw[List.take_length];rfl
abbrev nU (s:bc):Int × Bool:=if 4000<s.length then (0,false) else (Cr s,true)
abbrev mU (s:bc):Prop:=True
def lZ (s:bc) (Z:(Int × Bool)->Prop):Prop:=
 ∀ bI:Int,bI=(s.length:Int)->∀ c4:Bool,c4=decide (4000<bI)->((c4=true->Z (0,false))/\(c4=false->(iC s)/\∀ r7:Int,r7=Cr s->Z (r7,true)))
theorem B2 (s:bc) (h:mU s):lZ s (fun y=>y=nU s):=by
 unfold lZ;simp only[forall_eq,decide_eq_true_eq,decide_eq_false_iff_not];exact⟨fun h1=>by rw[nU,if_pos (by omega)],fun h1=>⟨by simp only[iC];omega,by rw[nU,if_neg (by omega)]⟩⟩
abbrev ns (l:List bc) (sep:bc):Prop:=l.length<=1048576/\(Lib.join l sep).length<=140737488355328
abbrev gq (sig:cV) (x:ay):bc:=jh ((at' sig x.control).name++[64]++dn x.parent) x.links
abbrev lL (w:aN):bc:=[32]++w.name++[61]++dn w.link
def kI (sig:cV) (b:aG):bc:=
 dn b.roots++[59,32]++b.nodes.flatMap (fun x=>gq sig x++[59,32])++jh [115,105,116,101,115] b.sites++[59,32]++dn b.edges++[59,32,111,117,116,101,114]++b.outer.flatMap (fun s=>32::s)++[59,32,105,110,110,101,114]++b.inner.flatMap lL
structure ju (sig:cV) (b:aG):Prop where
 roots:0<=b.roots/\b.roots<=4
 edges:0<=b.edges/\b.edges<=8
 len:b.nodes.length<=8
 ctl:∀ x ∈ b.nodes,0<=x.control/\x.control<sig.length
 nam:∀ x ∈ b.nodes,(at' sig x.control).name.length<=4
 par:∀ x ∈ b.nodes,-100<x.parent/\x.parent<100
 lnk:∀ x ∈ b.nodes,x.links.length<=3/\∀ l ∈ x.links,-100<l/\l<100
 sts:b.sites.length<=4/\∀ p ∈ b.sites,-100<p/\p<100
 out:b.outer.length<=16/\∀ s ∈ b.outer,s.length<=4
 inn:b.inner.length<=16/\∀ w ∈ b.inner,w.name.length<=4 /\ -100<w.link/\w.link<100
theorem iY {l:List Int} (h:∀ n ∈ l,-100<n/\n<100):(dV l).length<=4 * l.length:=cE fun x hx=>by have:=cQ (h x hx);simp;omega
theorem vy {sig:cV} {b:aG} (h:ju sig b) {x:ay} (hx:x ∈ b.nodes):(gq sig x).length<=20:=by
 have h1:=h.nam x hx;have h2:=cQ (h.par x hx);have h3:=iY (h.lnk x hx).2;have h4:=(h.lnk x hx).1;simp only[jh,List.length_append,List.length_cons,List.length_nil];omega
theorem pz {sig:cV} {b:aG} (h:ju sig b) {w:aN} (hw:w ∈ b.inner):(lL w).length<=9:=by
 obtain⟨h1,h2⟩:=h.inn.2 w hw;have h3:=cQ h2;simp only[List.length_append,List.length_cons,List.length_nil];omega
theorem uC {sig:cV} {b:aG} (h:ju sig b):(kI sig b).length<=600:=by
 have h1:=cQ (n:=b.roots) (by have:=h.roots;omega);have h2:(b.nodes.flatMap (fun x=>gq sig x++[59,32])).length<=22 * b.nodes.length:=cE fun x hx=>by have:=vy h hx;simp only[List.length_append,List.length_cons,List.length_nil];omega
 have h3:=iY h.sts.2;have h4:=cQ (n:=b.edges) (by have:=h.edges;omega);have h5:(b.outer.flatMap (fun s=>32::s)).length<=5 * b.outer.length:=cE fun x hx=>by have:=h.out.2 x hx;simp only[List.length_cons];omega
 have h6:(b.inner.flatMap lL).length<=9 * b.inner.length:=cE fun w hw=>pz h hw
 have a1:=h.len;have a2:=h.sts.1;have a3:=h.out.1;have a4:=h.inn.1;have h7:(jh [115,105,116,101,115] b.sites).length=5+(dV b.sites).length:=by simp[jh];omega
 simp only[kI,List.length_append,h7,List.length_cons,List.length_nil];generalize (b.nodes.flatMap (fun x=>gq sig x++[59,32])).length=q at *;omega
theorem pH {α:Type} (sep:bc) (f:α->bc):∀ l:List α,(l.flatMap fun x=>sep++f x)++sep=sep++l.flatMap fun x=>f x++sep
 | []=>by simp
 | x::l=>by
  have:=pH sep f l;simp only[List.flatMap_cons,List.append_assoc,this]
theorem rr (x:bc) (r:List bc) (sep:bc):Lib.join (x::r) sep=x++r.flatMap fun y=>sep++y:=by
 rw[Lib.join_cons,Lib.joinTail,List.flatMap_def]
theorem yS (sig:cV) (b:aG):Lib.join ([dn b.roots]++b.nodes.map (gq sig)++[jh [115,105,116,101,115] b.sites,dn b.edges,Lib.join ([[111,117,116,101,114]]++b.outer) [32]]++[[105,110,110,101,114]++b.inner.flatMap lL]) [59,32]=kI sig b:=by
 have e:=pH [59,32] (gq sig) b.nodes;simp only[List.cons_append,List.nil_append,rr,List.flatMap_append,List.flatMap_cons,List.flatMap_nil,List.append_nil,List.append_assoc,List.flatMap_map,kI] at e ⊢;have e2:∀ R:bc,List.flatMap (fun x=>59::32::gq sig x) b.nodes++59::32::R=59::32::(List.flatMap (fun x=>gq sig x++[59,32]) b.nodes++R):=fun R=>by
  have:=congrArg (·++R) e;simpa using this
 rw[e2]
abbrev mJ (sig:cV) (b:aG):Prop:=ju sig b
def mF (sig:List Control) (b:aG) (Z:bc->Prop):Prop:=
 (dC b.roots)/\∀ r5:bc,r5=sI b.roots->∀ l6:List bc,l6=[r5]->∀ len16:Int,len16=(b.nodes.length:Int)->aL (σ:=Int × (List bc)) (fun (v25,l26) K30=>∀ c31:Bool,c31=decide (v25<len16)->((c31=true->(0<=v25/\v25<b.nodes.length)/\∀ x34:ay,x34=at' b.nodes v25->(0<=x34.control/\x34.control<sig.length)/\∀ x40:Control,x40=at' sig x34.control->(x40.name.length+[64].length<4611686018427387904)/\∀ v43:bc,v43=x40.name++[64]->(dC x34.parent)/\∀ r46:bc,r46=sI x34.parent->(v43.length+r46.length<4611686018427387904)/\∀ v48:bc,v48=v43++r46->(kr v48 x34.links)/\∀ r51:bc,r51=jh v48 x34.links->(l26.length+1<=1073741824)/\∀ l53:List bc,l53=l26++[r51]->(bu (v25+1))/\∀ v63:Int,v63=v25+1->K30 (v63,l53))/\(c31=false->(kr [115,105,116,101,115] b.sites)/\∀ r68:bc,r68=jh [115,105,116,101,115] b.sites->(dC b.edges)/\∀ r70:bc,r70=sI b.edges->∀ l71:List bc,l71=[[111,117,116,101,114]]->(l71.length+b.outer.length<=1073741824)/\∀ l74:List bc,l74=l71++b.outer->(ns l74 [32])/\∀ r76:bc,r76=Lib.join l74 [32]->(l26.length+([r68,r70,r76]:List bc).length<=1073741824)/\∀ l78:List bc,l78=l26++([r68,r70,r76]:List bc)->∀ len122:Int,len122=(b.inner.length:Int)->aL (σ:=bc × Int) (fun (inner128,v129) K133=>∀ c134:Bool,c134=decide (v129<len122)->((c134=true->(0<=v129/\v129<b.inner.length)/\∀ x137:aN,x137=at' b.inner v129->([32].length+x137.name.length<4611686018427387904)/\∀ v143:bc,v143=[32]++x137.name->(v143.length+[61].length<4611686018427387904)/\∀ v146:bc,v146=v143++[61]->(dC x137.link)/\∀ r149:bc,r149=sI x137.link->(v146.length+r149.length<4611686018427387904)/\∀ v151:bc,v151=v146++r149->(inner128.length+v151.length<4611686018427387904)/\∀ v154:bc,v154=inner128++v151->(bu (v129+1))/\∀ v157:Int,v157=v129+1->K133 (v154,v157))/\(c134=false->(l78.length+1<=1073741824)/\∀ l160:List bc,l160=l78++[inner128]->(ns l160 [59,32])/\∀ r168:bc,r168=Lib.join l160 [59,32]->Z r168))) ([105,110,110,101,114],0)))) (0,l6)
theorem CH (sig:cV) (b:aG) (h:mJ sig b):mF sig b (fun y=>y=kI sig b):=by
 unfold mF;have h':ju sig b:=h;have hr:=h'.roots;have he:=h'.edges;have hn:=h'.len;have hs:=h'.sts;have ho:=h'.out;have hi:=h'.inn;have h3:=cQ (n:=b.roots) (by omega);have h4:=cQ (n:=b.edges) (by omega);have hT:=uC h';have hJ:=yS sig b;simp only[forall_eq,decide_eq_true_eq,decide_eq_false_iff_not,sI];refine⟨by simp only[dC,bu];omega,?_⟩;refine aL.oz b.nodes.length (fun k t=>t=[dn b.roots]++(b.nodes.take k).map (gq sig)) _ (by simp) ?_;rintro k _ K hk rfl IH;dsimp only;have hkl:([dn b.roots]++(b.nodes.take k).map (gq sig)).length<=9:=by simp;omega
 refine⟨fun hc=>?_,fun hc=>?_⟩
 ·have hk2:k<b.nodes.length:=by omega
  have hm:=List.getElem_mem hk2;rw[bm hk2];have e1:=h'.ctl _ hm;have e2:=h'.nam _ hm;have e3:=h'.par _ hm;have e4:=h'.lnk _ hm;have e5:=cQ e3;refine⟨⟨by omega,by omega⟩,e1,by simp;omega,by simp only[dC,bu];omega,by simp;omega,⟨by simp;omega,by omega,fun n hn=>by have:=e4.2 n hn;omega⟩,by omega,by simp only[bu];omega,IH hk2 _ ?_⟩;rw[List.take_succ_eq_append_getElem hk2,List.map_append];simp[gq]
 ·obtain rfl:k=b.nodes.length:=by omega
  rw[List.take_length] at hkl ⊢;have hjl:(Lib.join ([[111,117,116,101,114]]++b.outer) [32]).length<=600:=by
   have:(b.outer.flatMap (fun s=>[32]++s)).length<=5 * b.outer.length:=cE fun x hx=>by have:=ho.2 x hx;simp;omega
   rw[List.singleton_append,rr];simp only[List.length_append,List.length_cons,List.length_nil];omega
  refine⟨⟨by simp,by omega,fun n hn=>by have:=hs.2 n hn;omega⟩,by simp only[dC,bu];omega,by simp;omega,⟨by simp;omega,by omega⟩,by simp;omega,?_⟩;refine aL.Dc b.inner.length (fun k t=>t=[105,110,110,101,114]++(b.inner.take k).flatMap lL) _ (by simp) ?_;rintro k _ K2 hk2 rfl IH2;dsimp only;have hwl:((b.inner.take k).flatMap lL).length<=9 * (b.inner.take k).length:=cE fun w hw=>pz h' (List.mem_of_mem_take hw)
  have hwl2:(b.inner.take k).length=k:=by simp;omega
  refine⟨fun hc2=>?_,fun hc2=>?_⟩
  ·have hk3:k<b.inner.length:=by omega
   rw[bm hk3];have e1:=hi.2 _ (List.getElem_mem hk3);have e2:=cQ e1.2;refine⟨⟨by omega,by omega⟩,by simp;omega,by simp;omega,by simp only[dC,bu];omega,by simp only[List.length_append,List.length_cons,List.length_nil];omega,by simp only[List.length_append,List.length_cons,List.length_nil];omega,by simp only[bu];omega,IH2 hk3 _ ?_⟩;rw[List.take_succ_eq_append_getElem hk3,List.flatMap_append];simp
  ·obtain rfl:k=b.inner.length:=by omega
   rw[List.take_length];refine⟨by simp;omega,⟨by simp;omega,by rw[hJ];omega⟩,hJ⟩
abbrev lR (n:Int):bc:=dn n
abbrev dR (n:Int):Prop := -1000000<=n/\n<=1000000
abbrev fL (n:Int):Nat:=n.natAbs * 2+if n<0 then 1 else 0
def oT (n_:Int) (Z:bc->Prop):Prop:=
 ∀ c2:Bool,c2=decide (n_<0)->((c2=true->(bu (-n_))/\∀ v5:Int,v5 = -n_->(dR v5/\fL v5<fL n_)/\∀ r8:bc,r8=lR v5->([45].length+r8.length<4611686018427387904)/\∀ v10:bc,v10=[45]++r8->Z v10)/\(c2=false->∀ c12:Bool,c12=decide (n_<10)->((c12=true->(bu (n_+1))/\∀ v15:Int,v15=n_+1->(0<=n_/\n_<=v15/\v15<=[48,49,50,51,52,53,54,55,56,57].length)/\∀ s18:bc,s18=([48,49,50,51,52,53,54,55,56,57].take v15.toNat).drop n_.toNat->Z s18)/\(c12=false->((10:Int) ≠ 0)/\(bu (n_.tdiv 10))/\∀ v22:Int,v22=n_.tdiv 10->(dR v22/\fL v22<fL n_)/\∀ r25:bc,r25=lR v22->((10:Int) ≠ 0)/\∀ v27:Int,v27=n_.tmod 10->((10:Int) ≠ 0)/\∀ v30:Int,v30=n_.tmod 10->(bu (v27+1))/\∀ v34:Int,v34=v27+1->(0<=v27/\v27<=v34/\v34<=[48,49,50,51,52,53,54,55,56,57].length)/\∀ s37:bc,s37=([48,49,50,51,52,53,54,55,56,57].take v34.toNat).drop v27.toNat->(r25.length+s37.length<4611686018427387904)/\∀ v40:bc,v40=r25++s37->Z v40))))
theorem Dh (n:Int) (h:dR n):oT n (fun y=>y=lR n):=by
 unfold oT;obtain⟨h1,h2⟩:=h;simp only[forall_eq,decide_eq_true_eq,decide_eq_false_iff_not,lR];have hl:∀ m:Int,-1000000<=m/\m<=1000000->(dn m).length<=8:=fun m hm=>ma hm
 refine⟨fun h3=>⟨by simp only[bu];omega,⟨⟨by omega,by omega⟩,?_⟩,?_,?_⟩,fun h3=>⟨fun h4=>⟨by simp only[bu];omega,⟨by omega,by omega,by simp;omega⟩,?_⟩,fun h4=>?_⟩⟩
 ·simp only[fL];rw[if_neg (by omega),if_pos h3];omega
 ·have:=hl (-n) (by omega);simp;omega
 ·simp only[dn,Lib.itoa];rw[if_neg (by omega),if_pos h3];have:(-n).toNat=n.natAbs:=by omega
  rw[this];rfl
 ·simp only[dn,Lib.itoa];rw[if_neg h3,Lib.decDigits,dif_pos (by omega)];have:n=0\/n=1\/n=2\/n=3\/n=4\/n=5\/n=6\/n=7\/n=8\/n=9:=by omega
  rcases this with rfl | rfl | rfl | rfl | rfl | rfl | rfl | rfl | rfl | rfl<;>rfl
 ·have e1:n.tdiv 10=n / 10:=Int.tdiv_eq_ediv_of_nonneg (by omega);have e2:n.tmod 10=n % 10:=Int.tmod_eq_emod_of_nonneg (by omega);rw[e1,e2];have hm:0<=n % 10/\n % 10<10:=⟨Int.emod_nonneg _ (by omega),Int.emod_lt_of_pos _ (by omega)⟩
  have hd:0<=n / 10/\n / 10<n:=by omega
  have e3:∀ m:Int,0<=m/\m<10->(([48,49,50,51,52,53,54,55,56,57]:bc).take (m+1).toNat).drop m.toNat=[UInt8.ofNat (48+m.toNat)]:=fun m hm=>by
   have:m=0\/m=1\/m=2\/m=3\/m=4\/m=5\/m=6\/m=7\/m=8\/m=9:=by omega
   rcases this with rfl | rfl | rfl | rfl | rfl | rfl | rfl | rfl | rfl | rfl<;>rfl
  have hl2:=hl (n / 10) (by omega);refine⟨by omega,by simp only[bu];omega,⟨⟨by omega,by omega⟩,?_⟩,by omega,by omega,by simp only[bu];omega,⟨by omega,by omega,by simp;omega⟩,?_,?_⟩
  ·simp only[fL];rw[if_neg (by omega),if_neg h3];omega
  ·rw[e3 _ hm];simp;omega
  ·rw[e3 _ hm];simp only[dn,Lib.itoa];rw[if_neg (by omega),if_neg h3]
   conv=>rhs;rw[Lib.decDigits]
   rw[dif_neg (by omega)];have a1:(n / 10).toNat=n.toNat / 10:=by omega
   have a2:(n % 10).toNat=n.toNat % 10:=by omega
   rw[a1,a2]
abbrev iG (l:List Int):Prop:=ny l
def kb (list:List Int) (Z:bc->Prop):Prop:=
 aL (σ:=bc × Int) (fun (s5,i6) K9=>∀ ja:Int,ja=(list.length:Int)->∀ c12:Bool,c12=decide (i6<ja)->((c12=true->(s5.length+[32].length<4611686018427387904)/\∀ v15:bc,v15=s5++[32]->(0<=i6/\i6<list.length)/\∀ x18:Int,x18=at' list i6->(dR x18)/\∀ r21:bc,r21=lR x18->(v15.length+r21.length<4611686018427387904)/\∀ v23:bc,v23=v15++r21->(bu (i6+1))/\∀ v26:Int,v26=i6+1->K9 (v23,v26))/\(c12=false->Z s5))) ([],0)
theorem za (l:List Int) (h:iG l):kb l (fun y=>y=dV l):=by
 unfold kb;have h':ny l:=h;simp only[forall_eq,decide_eq_true_eq,decide_eq_false_iff_not,lR];have hll:=h'.1;refine aL.Dc l.length (fun k t=>t=dV (l.take k)) _ (by simp[dV]) ?_;rintro k _ K hk rfl IH;dsimp only;have hl:=qw (po h' k);have hl2:(l.take k).length=k:=by simp;omega
 refine⟨fun hc=>?_,fun hc=>?_⟩
 ·have hk2:k<l.length:=by omega
  have hx:=h'.2 _ (at_mem (l:=l) (i:=(k:Int)) (by omega));have hx2:=ma hx;refine⟨by simp;omega,⟨by omega,by omega⟩,hx,by simp;omega,by simp only[bu];omega,IH hk2 _ ?_⟩;rw[pX hk2];simp
 ·obtain rfl:k=l.length:=by omega
  rw[List.take_length]
abbrev uU (sig:cV) (b:aG):bc:=kI sig b
abbrev nb (sig:cV) (b:aG):Prop:=ju sig b
def lE (sig:List Control) (b:aG) (Z:bc->Prop):Prop:=
 (dR b.roots)/\∀ r5:bc,r5=lR b.roots->(r5.length+[59,32].length<4611686018427387904)/\∀ v7:bc,v7=r5++[59,32]->aL (σ:=bc × Int) (fun (s12,i13) K16=>∀ len17:Int,len17=(b.nodes.length:Int)->∀ c19:Bool,c19=decide (i13<len17)->((c19=true->(0<=i13/\i13<b.nodes.length)/\∀ x22:ay,x22=at' b.nodes i13->(0<=x22.control/\x22.control<sig.length)/\∀ x27:Control,x27=at' sig x22.control->(s12.length+x27.name.length<4611686018427387904)/\∀ v30:bc,v30=s12++x27.name->(v30.length+[64].length<4611686018427387904)/\∀ v33:bc,v33=v30++[64]->(dR x22.parent)/\∀ r36:bc,r36=lR x22.parent->(v33.length+r36.length<4611686018427387904)/\∀ v38:bc,v38=v33++r36->(iG x22.links)/\∀ r41:bc,r41=dV x22.links->(v38.length+r41.length<4611686018427387904)/\∀ v43:bc,v43=v38++r41->(v43.length+[59,32].length<4611686018427387904)/\∀ v46:bc,v46=v43++[59,32]->(bu (i13+1))/\∀ v50:Int,v50=i13+1->K16 (v46,v50))/\(c19=false->(s12.length+[115,105,116,101,115].length<4611686018427387904)/\∀ v53:bc,v53=s12++[115,105,116,101,115]->(iG b.sites)/\∀ r56:bc,r56=dV b.sites->(v53.length+r56.length<4611686018427387904)/\∀ v58:bc,v58=v53++r56->(v58.length+[59,32].length<4611686018427387904)/\∀ v61:bc,v61=v58++[59,32]->(dR b.edges)/\∀ r64:bc,r64=lR b.edges->(v61.length+r64.length<4611686018427387904)/\∀ v66:bc,v66=v61++r64->(v66.length+[59,32,111,117,116,101,114].length<4611686018427387904)/\∀ v69:bc,v69=v66++[59,32,111,117,116,101,114]->aL (σ:=bc × Int) (fun (s75,i76) K79=>∀ len80:Int,len80=(b.outer.length:Int)->∀ c82:Bool,c82=decide (i76<len80)->((c82=true->(s75.length+[32].length<4611686018427387904)/\∀ v85:bc,v85=s75++[32]->(0<=i76/\i76<b.outer.length)/\∀ x88:bc,x88=at' b.outer i76->(v85.length+x88.length<4611686018427387904)/\∀ v91:bc,v91=v85++x88->(bu (i76+1))/\∀ v94:Int,v94=i76+1->K79 (v91,v94))/\(c82=false->(s75.length+[59,32,105,110,110,101,114].length<4611686018427387904)/\∀ v98:bc,v98=s75++[59,32,105,110,110,101,114]->aL (σ:=bc × Int) (fun (s103,i104) K107=>∀ len108:Int,len108=(b.inner.length:Int)->∀ c110:Bool,c110=decide (i104<len108)->((c110=true->(s103.length+[32].length<4611686018427387904)/\∀ v113:bc,v113=s103++[32]->(0<=i104/\i104<b.inner.length)/\∀ x116:aN,x116=at' b.inner i104->(v113.length+x116.name.length<4611686018427387904)/\∀ v119:bc,v119=v113++x116.name->(v119.length+[61].length<4611686018427387904)/\∀ v122:bc,v122=v119++[61]->(0<=i104/\i104<b.inner.length)/\∀ x125:aN,x125=at' b.inner i104->(dR x116.link)/\∀ r129:bc,r129=lR x116.link->(v122.length+r129.length<4611686018427387904)/\∀ v131:bc,v131=v122++r129->(bu (i104+1))/\∀ v135:Int,v135=i104+1->K107 (v131,v135))/\(c110=false->Z s103))) (v98,0)))) (v69,0)))) (v7,0)
theorem CN (sig:cV) (b:aG) (h:nb sig b):lE sig b (fun y=>y=uU sig b):=by
 unfold lE;have h':ju sig b:=h;have hr:=h'.roots;have he:=h'.edges;have hn:=h'.len;have hs:=h'.sts;have ho:=h'.out;have hi:=h'.inn;have h3:=cQ (n:=b.roots) (by omega);have h4:=cQ (n:=b.edges) (by omega);have h5:=iY hs.2;simp only[forall_eq,decide_eq_true_eq,decide_eq_false_iff_not,lR];refine⟨⟨by omega,by omega⟩,by simp only[List.length_cons,List.length_nil];omega,?_⟩;refine aL.Dc b.nodes.length (fun k t=>t=dn b.roots++[59,32]++(b.nodes.take k).flatMap (fun x=>gq sig x++[59,32])) _ (by simp) ?_;rintro k _ K hk rfl IH;dsimp only;have hwl:((b.nodes.take k).flatMap (fun x=>gq sig x++[59,32])).length<=22 * (b.nodes.take k).length:=cE fun x hx=>by have:=vy h' (List.mem_of_mem_take hx);simp only[List.length_append,List.length_cons,List.length_nil];omega
 have hwl2:(b.nodes.take k).length=k:=by simp;omega
 generalize hA:(b.nodes.take k).flatMap (fun x=>gq sig x++[59,32])=A at *;refine⟨fun hc=>?_,fun hc=>?_⟩
 ·have hk2:k<b.nodes.length:=by omega
  have hm:=List.getElem_mem hk2;rw[bm hk2];have e1:=h'.ctl _ hm;have e2:=h'.nam _ hm;have e3:=h'.par _ hm;have e4:=h'.lnk _ hm;have e5:=cQ e3;have e6:=iY e4.2;refine⟨⟨by omega,by omega⟩,e1,?_,?_,⟨by omega,by omega⟩,?_,⟨by omega,fun n hn=>by have:=e4.2 n hn;omega⟩,?_,?_,by simp only[bu];omega,IH hk2 _ ?_⟩
  iterate 5 (· simp only[List.length_append,List.length_cons,List.length_nil];omega)
  rw[List.take_succ_eq_append_getElem hk2,List.flatMap_append,hA];simp[gq,jh]
 ·obtain rfl:k=b.nodes.length:=by omega
  rw[List.take_length] at hA;refine⟨?_,⟨by omega,fun n hn=>by have:=hs.2 n hn;omega⟩,?_,?_,⟨by omega,by omega⟩,?_,?_,?_⟩
  iterate 5 (· simp only[List.length_append,List.length_cons,List.length_nil];omega)
  generalize hB:dn b.roots++[59,32]++A++[115,105,116,101,115]++dV b.sites++[59,32]++dn b.edges++[59,32,111,117,116,101,114]=B;have hBl:B.length<=300:=by rw[<- hB];simp only[List.length_append,List.length_cons,List.length_nil];omega
  refine aL.Dc b.outer.length (fun k t=>t=B++(b.outer.take k).flatMap (fun s=>32::s)) _ (by simp) ?_;rintro k _ K2 hk2 rfl IH2;dsimp only;have hol:((b.outer.take k).flatMap (fun s=>32::s)).length<=5 * (b.outer.take k).length:=cE fun x hx=>by have:=ho.2 x (List.mem_of_mem_take hx);simp only[List.length_cons];omega
  have hol2:(b.outer.take k).length=k:=by simp;omega
  generalize hC:(b.outer.take k).flatMap (fun s=>32::s)=C at *;refine⟨fun hc2=>?_,fun hc2=>?_⟩
  ·have hk3:k<b.outer.length:=by omega
   rw[bm hk3];have e1:=ho.2 _ (List.getElem_mem hk3);refine⟨?_,⟨by omega,by omega⟩,?_,by simp only[bu];omega,IH2 hk3 _ ?_⟩
   iterate 2 (· simp only[List.length_append,List.length_cons,List.length_nil];omega)
   rw[List.take_succ_eq_append_getElem hk3,List.flatMap_append,hC];simp
  ·obtain rfl:k=b.outer.length:=by omega
   rw[List.take_length] at hC;refine⟨by simp only[List.length_append,List.length_cons,List.length_nil];omega,?_⟩;generalize hD:B++C++[59,32,105,110,110,101,114]=al;have hDl:al.length<=500:=by rw[<- hD];simp only[List.length_append,List.length_cons,List.length_nil];omega
   refine aL.Dc b.inner.length (fun k t=>t=al++(b.inner.take k).flatMap lL) _ (by simp) ?_;rintro k _ K3 hk3 rfl IH3;dsimp only;have hil:((b.inner.take k).flatMap lL).length<=9 * (b.inner.take k).length:=cE fun w hw=>pz h' (List.mem_of_mem_take hw)
   have hil2:(b.inner.take k).length=k:=by simp;omega
   generalize hE:(b.inner.take k).flatMap lL=ag at *;refine⟨fun hc3=>?_,fun hc3=>?_⟩
   ·have hk4:k<b.inner.length:=by omega
    rw[bm hk4];have e1:=hi.2 _ (List.getElem_mem hk4);have e2:=cQ e1.2;refine⟨?_,⟨by omega,by omega⟩,?_,?_,⟨by omega,by omega⟩,⟨by omega,by omega⟩,?_,by simp only[bu];omega,IH3 hk4 _ ?_⟩
    iterate 4 (· simp only[List.length_append,List.length_cons,List.length_nil];omega)
    rw[List.take_succ_eq_append_getElem hk4,List.flatMap_append,hE];simp
   ·obtain rfl:k=b.inner.length:=by omega
    rw[List.take_length] at hE;rw[<- hE,<- hD,<- hC,<- hB,<- hA,uU,kI,jh];simp only[List.append_assoc]
theorem C6 {sig:cV} {b:aG} (h:jQ sig b=true):ju sig (dZ b):=by
 have hv:=jq h;have hc:=D2 hv;have hn:=hv.len;have he:=hv.edges;have ho:=hv.outer;have hi:=hv.inner;have hnm:(∀ s ∈ b.outer,s.length<=4)/\(∀ w ∈ b.inner,w.name.length<=4)/\∀ c ∈ sig,c.name.length<=4:=by
  simp only[jQ,Bool.and_eq_true,decide_eq_true_eq] at h;obtain⟨⟨⟨⟨⟨⟨⟨⟨⟨hs,_⟩,_⟩,_⟩,_⟩,ho⟩,hi⟩,_⟩,_⟩,_⟩:=h;have nm:∀ l:List bc,cA l=true->∀ s ∈ l,s.length<=4:=fun l hl s hm=>by
   simp only[cA,Bool.and_eq_true,List.all_eq_true,List.mem_range] at hl;obtain⟨i,hi,rfl⟩:=List.getElem_of_mem hm;have:=(hl.2 i hi).1;simp only[List.getD_eq_getElem?_getD,List.getElem?_eq_getElem hi,Option.getD_some,kC,within,Bool.and_eq_true,decide_eq_true_eq] at this;omega
  refine⟨nm _ ho,fun w hw=>nm _ hi _ (List.mem_map_of_mem hw),fun c hc=>?_⟩;simp only[eM,cH,Bool.and_eq_true,List.all_eq_true,List.mem_range] at hs;obtain⟨i,hi,rfl⟩:=List.getElem_of_mem hc;have:=(hs.2 i hi).1.1.1;simp only[List.getD_eq_getElem?_getD,List.getElem?_eq_getElem hi,Option.getD_some,kC,within,Bool.and_eq_true,decide_eq_true_eq] at this;omega
 have hr:=hv.roots;have hE:∀ l:Int,0<=l/\l<b.edges+b.outer.length -> -100<fe l b (nc b)/\fe l b (nc b)<100:=fun l hl=>by
  have hel:(aS b).s.es.length<=b.edges.toNat:=qg hc.es.nd fun x hx=>by have:=hc.es.rng x hx;omega
  have hal:(ia (aS b).s.es b.edges.toNat).length<=b.edges.toNat:=nC (fun l => !decide (l ∈ (aS b).s.es)) _;have h1:=rQ (nc b) l;have h2:(nc b).length<=16:=by simp only[nc,List.length_append];omega
  simp only[fe]
  split<;>omega
 have hP:∀ p:Int,-b.roots<=p->p<b.nodes.length -> -100<fG p (qC b).2/\fG p (qC b).2<100:=fun p h1 h2=>by
  simp only[fG]
  split
  ·rename_i h3
   have:=hc.at (k:=p) ⟨h3,h2⟩;have hm:=List.idxOf_lt_length_of_mem (hc.mem (k:=p) ⟨h3,h2⟩);have hl:=hc.len;rw[show at' ({ edges:=(aS b).s.es,places:=(aS b).s.pl }:gU).places p=at' (aS b).s.pl p from rfl,this];omega
  ·omega
 refine⟨hr,he,?_,fun x hx=>?_,fun x hx=>?_,fun x hx=>?_,fun x hx=>?_,⟨by simp only[dZ,List.length_map];exact hv.slen,fun p hp=>?_⟩,⟨ho,hnm.1⟩,⟨by simp only[dZ,List.length_map];exact hi,fun w hw=>?_⟩⟩
 ·simp only[dZ,List.length_map,hc.len];exact hn
 ·obtain⟨k,hk,rfl⟩:=List.mem_map.1 hx;exact hv.B6 (hc.rng k hk)
 ·obtain⟨k,hk,rfl⟩:=List.mem_map.1 hx;exact hnm.2.2 _ (at_mem (hv.B6 (hc.rng k hk)))
 ·obtain⟨k,hk,rfl⟩:=List.mem_map.1 hx;have h1:=hc.rng k hk;have h2:=hv.jK h1;exact hP _ h2.1 (by omega)
 ·obtain⟨k,hk,rfl⟩:=List.mem_map.1 hx;have h1:=hc.rng k hk;refine⟨by simp only[fM,List.length_map];exact hv.fB h1,fun l hl=>?_⟩;obtain⟨m,hm,rfl⟩:=List.mem_map.1 hl;exact hE m (hv.iM h1 m hm)
 ·obtain⟨q,hq,rfl⟩:=List.mem_map.1 hp;have h1:=hv.sites q hq;exact hP _ h1.1 h1.2
 ·obtain⟨q,hq,rfl⟩:=List.mem_map.1 hw;exact⟨hnm.2.1 q hq,hE _ (hv.wires q hq)⟩
noncomputable abbrev kH (sig:cV) (b:aG):Int × Bool:=if jQ sig b=true then nU (kI sig (dZ b)) else (0,false)
abbrev mT (sig:cV) (b:aG):Prop:=gx sig b
def lv (sig:List Control) (b:aG) (Z:(Int × Bool)->Prop):Prop:=
 (gx sig b)/\∀ r5:Bool,r5=jQ sig b->((r5=true->(kZ b)/\∀ r7:aG,r7=dZ b->(mJ sig r7)/\∀ r27:bc,r27=kI sig r7->(mU r27)/\∀ r29:Int × Bool,r29=nU r27->Z (r29.1,r29.2))/\(r5=false->Z (0,false)))
theorem Ck (sig:cV) (b:aG) (h:mT sig b):lv sig b (fun y=>y=kH sig b):=by
 unfold lv;simp only[forall_eq,decide_eq_true_eq,decide_eq_false_iff_not];exact⟨h,fun h1=>⟨⟨sig,jq h1⟩,C6 h1,trivial,by rw[kH,if_pos h1]⟩,fun h1=>by rw[kH,if_neg (by rw[h1];simp)]⟩
noncomputable abbrev kU (sig:cV) (b:aG):Int × Bool:=kH sig b
abbrev kN (sig:cV) (b:aG):Prop:=gx sig b
def ks (sig:List Control) (b:aG) (Z:(Int × Bool)->Prop):Prop:=
 (gx sig b)/\∀ r5:Bool,r5=jQ sig b->((r5=true->(kY b)/\∀ r7:aG,r7=iQ b->(nb sig r7)/\∀ r9:bc,r9=uU sig r7->(ll r9)/\∀ r11:Int,r11=sumL r9->Z (r11,true))/\(r5=false->Z (0,false)))
theorem zt (sig:cV) (b:aG) (h:kN sig b):ks sig b (fun y=>y=kU sig b):=by
 unfold ks;simp only[forall_eq,decide_eq_true_eq,decide_eq_false_iff_not];refine⟨h,fun h1=>?_,fun h1=>by rw[kU,kH,if_neg (by rw[h1];simp)]⟩;have ht:=C6 h1;have hl:=uC ht;exact⟨⟨sig,jq h1⟩,ht,by simp only[ll,iC,uU,iQ];omega,by rw[kU,kH,if_pos h1,nU,if_neg (by omega)]⟩
abbrev B9 (_:cV) (_:aG):Bool:=true
abbrev pq (sig:cV) (b:aG):Prop:=xK sig/\og b
def jX (eG:List Control) (aB:aG) (Z:Bool->Prop):Prop:=
 (((0:Int)<=1048576/\(1048576:Int)<=1048576)/\xK eG)/\∀ r5:Int,r5=gW tK eG 1048576->∀ c6:Bool,c6=decide (r5<0)->((c6=true->Z true)/\(c6=false->(((0:Int)<=r5/\(r5:Int)<=1048576)/\og aB)/\∀ r9:Int,r9=DZ aB r5->∀ c10:Bool,c10=decide (r9<0)->((c10=true->Z true)/\(c10=false->(di eG)/\∀ r13:List Control,r13=eU eG->(dF aB)/\∀ r15:aG,r15=dj aB->(kN r13 r15)/\∀ r17:Int × Bool,r17=kU r13 r15->(di eG)/\∀ r20:List Control,r20=eU eG->(dF aB)/\∀ r22:aG,r22=dj aB->(mT r20 r22)/\∀ r26:Int × Bool,r26=kH r20 r22->pW (fun (J27:Bool->Prop)=>∀ c41:Bool,c41=decide (r26.1 ≠ r17.1)->((c41=true->J27 (true))/\(c41=false->∀ c43:Bool,c43 = !(r26.2 == r17.2)->J27 (c43)))) (fun b30=>((b30=true->Z false)/\(b30=false->(di eG)/\∀ r34:List Control,r34=eU eG->(r20.length<=1048576)/\∀ r36:Bool,r36=decide (r20=r34)->((r36=true->(dF aB)/\∀ r38:aG,r38=dj aB->(EqB r22)/\∀ r40:Bool,r40=decide (r22=r38)->((r40=true->Z true)/\(r40=false->Z false)))/\(r36=false->Z false)))))))))
theorem Ae (sig:cV) (b:aG) (h:pq sig b):jX sig b (fun y=>y=B9 sig b):=by
 unfold jX;simp only[forall_eq,decide_eq_true_eq,decide_eq_false_iff_not,eU,dj,kU];obtain⟨h1,h2⟩:=h;refine⟨⟨by omega,h1⟩,fun _=>trivial,fun s1=>?_⟩;have l1:=nH tK sig 1048576 (by omega);refine⟨⟨by omega,h2⟩,fun _=>trivial,fun s2=>?_⟩;have a2:gx sig b:=smallB (left:=1048576) (by omega) (by omega) (by omega) (by omega) h2;have a1:=a2.sigLen;generalize kH sig b=an;refine⟨a1,toOf a2,a2,a1,toOf a2,a2,fun c=>c=false,⟨fun h=>absurd rfl h,fun _=>by simp⟩,?_⟩;rintro _ rfl;exact⟨fun h=>(by cases h),fun _=>⟨a1,a1,fun _=>⟨toOf a2,eqOf a2,fun _=>trivial,fun h=>absurd trivial h⟩,fun h=>absurd trivial h⟩⟩
end Go.Ab.Vg
namespace Go.Ab.Vg
open Go.Proofs
set_option maxRecDepth 100000
attribute [local simp] ay.cells aN.cells au jm a7 bC pA
theorem e99:aZ prog 99:=aZ.of func99 (by kernel_rfl) rfl
theorem vD (many:Int) (Z:(List Int)->Prop) (h:lq many Z):bK prog 99 [int many] (.s [.c]) (fun r=>∃ y:List Int,Z y/\r = .list true (y.map au)):=by
 unfold lq at h;have M:Sep bp 0 [] []:=Sep.nil (by simp);refine bK.of func99 rfl ntmps99 (by simp) fun Q hQ=>?_
 refine J.cut (fun O H n=>O 0=int many/\Sep H n [] []) (by refine⟨by simp[],M⟩) ?_;rintro O H U ⟨E,M⟩;refine zE fun _ V=>?_
 simp[E];apply V;refine zE fun _ V=>?_
 simp[E];apply V;refine J.cut (fun O H n=>∃ (v3:I),(O 0=int many/\O 3=v3)/\Sep H n [oI v3 ([]:List Int)] []) (by refine⟨.arr (U,5) 0 0 0,by simp[E],(Sep.addEmpty (l:=[.c]) M)⟩) ?_;clear E;rintro O H n4 ⟨v3,E,M⟩;refine zS fun _ V=>?_
 simp[E];apply V;apply J.block;refine J.aL h (fun (sJ:Int × (List Int)) O H n=>match sJ with | (i12,e)=>∃ (d:I),(O 0=int many/\O 3=d/\O 4=int i12)/\Sep H n [oI d e] []) (by refine⟨v3,by simp[E],M⟩) ?_;clear E;rintro⟨i12,e⟩ O H n15 K h ⟨d,E,M⟩ i;refine zS fun _ V=>?_
 obtain⟨j,o,h⟩:=aH h;have f19:=bg (k:=.i64) o;simp[E,f19,-aw];apply V;refine J.ite (b:=j) (by simp[E]) (fun a=>?_) (fun a=>?_)
 ·replace h:=h.1 a;apply zK;apply J.block;refine zF fun _ V=>?_
  obtain⟨p,h⟩:=h;obtain⟨g,q,h⟩:=aH h;simp[E,a,-bb];refine cC [] [] [[int (-1)]] [au (-1)] M aO (by simp) (by simp) (by simp) (by simp[-aF,bl]) (b6 (aY.v _ aY.nil)) (by simp) (by simpa using p) ?_;rintro v22 t n24 M B C;replace M:Sep t n24 [oI v22 g] []:=Sep.ap q M;simp[E,a];apply V;refine J.cut (fun O H n=>∃ (v28:I),(O 0=int many/\O 3=v28/\O 4=int i12)/\Sep H n [oI v28 g] []) (by refine⟨v22,by simp[E,a],M⟩) ?_;clear E;rintro O H n29 ⟨v28,E,M⟩;refine zI fun _ V=>?_
  obtain⟨u,h⟩:=h;obtain⟨v31,A,h⟩:=aH h;have f32:=aV u A;simp[E,f32,-aw];apply V;refine i (v31,g) _ _ _ h (by refine⟨v28,by simp[E],M⟩)
 replace h:=h.2 a;refine J.exit rfl ?_;refine zE fun _ V=>?_
 simp[E,a];apply V;exact J.bX (v:=d) func99 results99 (by simp[E,a]) (hQ _ _ _ _ (Sep.sub (dO:=[]) M (by simp)) ⟨e,h,rfl⟩)
theorem lk (many:Int) (hp:fR many):bK prog 99 [int many] (.s [.c]) (fun r=>r = .list true ((gr many).map au)):=(vD many _ (Bs many hp)).mono (by rintro _ ⟨_,rfl,rfl⟩;rfl)
theorem e104:aZ prog 104:=aZ.of func104 (by kernel_rfl) rfl
theorem Af (l:List Int) (Z:(List Int)->Prop) (h:ox l Z):bK prog 104 [.list false (l.map au)] (.s [.c]) (fun r=>∃ y:List Int,Z y/\r = .list true (y.map au)):=by
 unfold ox at h;have M:Sep bp 0 [] []:=Sep.nil (by simp);refine bK.of func104 rfl ntmps104 (by simp) fun Q hQ=>?_
 refine J.cut (fun O H n=>O 0 = .list false (l.map au)/\Sep H n [] []) (by refine⟨by simp ,M⟩) ?_;rintro O H U ⟨E,M⟩;refine zE fun _ V=>?_
 simp[E];apply V;refine zE fun _ V=>?_
 obtain⟨hb3,h⟩:=h;obtain⟨l4,el4,h⟩:=aH h;simp[E,-bb];refine cW (l.map au) (Sep.addEmpty (l:=[.c]) M) (by simp) aO (by simp) (by simp) (by simp[cb]) (by simp[-aF,bl]) (by simpa using hb3) ?_;rintro v5 H6 n7 M hfr8 hle9;replace M:Sep H6 n7 [oI v5 l4] []:=by refine Sep.ap el4 ?_;exact M
 simp[E];apply V;refine J.cut (fun O H n=>∃ (v11:I),O 2=v11/\Sep H n [oI v11 l4] []) (by refine⟨v5,by simp[E],M⟩) ?_;clear E;rintro O H a ⟨v11,E,M⟩;exact J.bX (v:=v11) func104 results104 (by simp[E]) (hQ _ _ _ _ (Sep.sub (dO:=[]) M (by simp)) ⟨l4,h,rfl⟩)
theorem rZ (l:List Int) (hp:fg l):bK prog 104 [.list false (l.map au)] (.s [.c]) (fun r=>r = .list true ((vA l).map au)):=(Af l _ (DU l hp)).mono (by rintro _ ⟨_,rfl,rfl⟩;rfl)
theorem e154:aZ prog 154:=aZ.of func154 (by kernel_rfl) rfl
theorem zr (edges:List Int) (Z:Int->Prop) (h:oG edges Z):aC prog 154 [.list false (edges.map au)] (fun r=>∃ y:Int,Z y/\r=int y):=by
 unfold oG at h;refine aC.of func154 rfl ntmps154 (by simp) fun Q hQ=>?_
 refine J.cut (fun O H n=>O 0 = .list false (edges.map au)) (by simp) ?_;rintro O H U E;refine zE fun _ V=>?_
 simp[E];apply V;refine zE fun _ V=>?_
 simp[E];apply V;refine zS fun _ V=>?_
 simp[E];apply V;apply J.block;refine J.aL h (fun (sJ:Int × Int) O H n=>match sJ with | (many5,i6)=>(O 0 = .list false (edges.map au)/\O 3=int many5/\O 4=int i6)) (by simp[E]) ?_;clear E;rintro⟨many5,i6⟩ O H n7 K h E IH8;refine zS fun _ V=>?_
 obtain⟨ja,d,h⟩:=aH h;have f11:=fun H=>aQ (H:=H) (fr:=false) (f:=au) aO d
 obtain⟨e,g,h⟩:=aH h;have f13:=bg (k:=.i64) g;simp[E,f11,f13,-aw,-aJ];apply V;refine J.ite (b:=e) (by simp[E]) (fun a=>?_) (fun a=>?_)
 ·replace h:=h.1 a;apply zK;apply J.block;refine zE fun _ V=>?_
  obtain⟨i,h⟩:=h;obtain⟨D,j,h⟩:=aH h;have f16:=fun H=>aR (H:=H) (fr:=false) (f:=au) (k:=.i64) aO (fun _=>rfl) i j
  obtain⟨l,o,h⟩:=aH h;have f18:=kL (k:=.i64) o;simp[E,f16,f18,a,-ar,-aw];apply V;refine J.ite (b:=l) (by simp[E,a]) (fun c=>?_) (fun c=>?_)
  ·replace h:=h.1 c;refine zF fun _ V=>?_
   obtain⟨p,h⟩:=h;obtain⟨v20,q,h⟩:=aH h;have f21:=aV p q;simp[E,f21,a,c,-aw];apply V;refine zI fun _ V=>?_
   obtain⟨t,h⟩:=h;obtain⟨v23,u,h⟩:=aH h;have f24:=aV t u;simp[E,f24,a,c,-aw];apply V;refine J.cut (fun O H n=>(O 0 = .list false (edges.map au)/\O 3=int v20/\O 4=int v23)) (by simp[E,f24,a,c,-aw]) ?_;clear E;rintro O H n25 E;refine IH8 (v20,v23) _ _ _ h (by simp[E])
  replace h:=h.2 c;apply J.skip;refine zI fun _ V=>?_
  obtain⟨A,h⟩:=h;obtain⟨B,C,h⟩:=aH h;have f28:=aV A C;simp[E,f28,a,c,-aw];apply V;refine IH8 (many5,B) _ _ _ h (by simp[E,a,c])
 replace h:=h.2 a;refine J.exit rfl ?_;refine zE fun _ V=>?_
 simp[E,a];apply V;exact J.bX (v:=int many5) func154 results154 (by simp[E,a]) (hQ _ _ _ _ (.of (.v _)) ⟨many5,h,rfl⟩)
theorem DV (edges:List Int) (hp:lO edges):aC prog 154 [.list false (edges.map au)] (fun r=>r=int (fO edges)):=(zr edges _ (D0 edges hp)).mono (by rintro _ ⟨_,rfl,rfl⟩;rfl)
theorem e134:aZ prog 134:=aZ.of func134 (by kernel_rfl) rfl
theorem AB (parent:Int) (places:List Int) (Z:Int->Prop) (h:oQ parent places Z):aC prog 134 [int parent,.list false (places.map au)] (fun r=>∃ y:Int,Z y/\r=int y):=by
 unfold oQ at h;refine aC.of func134 rfl ntmps134 (by simp) fun Q hQ=>?_
 refine J.cut (fun O H n=>(O 0=int parent/\O 1 = .list false (places.map au))) (by simp) ?_;rintro O H U E;refine zE fun _ V=>?_
 simp[E];apply V;refine zS fun _ V=>?_
 obtain⟨c2,ec2,h⟩:=aH h;have f3:=bg (k:=.i64) ec2;simp[E,f3,-aw];apply V;refine J.ite (b:=c2) (by simp[E]) (fun dc2=>?_) (fun dc2=>?_)
 ·replace h:=h.1 dc2;refine zE fun _ V=>?_
  obtain⟨hb4,h⟩:=h;obtain⟨v5,ev5,h⟩:=aH h;have f6:=sB hb4 ev5;simp[E,f6,dc2,-aw];apply V;exact J.bX (v:=int v5) func134 results134 (by simp[E,dc2]) (hQ _ _ _ _ (.of (.v _)) ⟨v5,h,rfl⟩)
 replace h:=h.2 dc2;apply J.skip;refine zE fun _ V=>?_
 obtain⟨hb7,h⟩:=h;obtain⟨x8,ex8,h⟩:=aH h;have f9:=fun H=>aR (H:=H) (fr:=false) (f:=au) (k:=.i64) aO (fun _=>rfl) hb7 ex8
 obtain⟨a,h⟩:=h;obtain⟨v11,c,h⟩:=aH h;have f12:=aV a c;simp[E,f9,f12,dc2,-ar,-aw];apply V;exact J.bX (v:=int v11) func134 results134 (by simp[E,dc2]) (hQ _ _ _ _ (.of (.v _)) ⟨v11,h,rfl⟩)
theorem xX (parent:Int) (places:List Int) (hp:gm parent places):aC prog 134 [int parent,.list false (places.map au)] (fun r=>r=int (Aa parent places)):=(AB parent places _ (DN parent places hp)).mono (by rintro _ ⟨_,rfl,rfl⟩;rfl)
theorem e133:aZ prog 133:=aZ.of func133 (by kernel_rfl) rfl
theorem tL (b:aG) (links:List Int) (edges:List Int) (Z:((List Int) × (List Int))->Prop) (h:kc b links edges Z):bK prog 133 [.agg (bC false b),.list false (links.map au),.list false (edges.map au)] (.t [.s [.c],.s [.c]]) (fun r=>∃ y:(List Int) × (List Int),Z y/\r = .tup [.list true (y.1.map au),.list true (y.2.map au)]):=by
 unfold kc at h;have M:Sep bp 0 [] []:=Sep.nil (by simp);refine bK.of func133 rfl ntmps133 (by simp) fun Q hQ=>?_
 refine J.cut (fun O H n=>(O 0 = .agg (bC false b)/\O 1 = .list false (links.map au)/\O 2 = .list false (edges.map au))/\Sep H n [] []) (by refine⟨by simp ,M⟩) ?_;rintro O H U ⟨E,M⟩;refine zE fun _ V=>?_
 simp[E];apply V;refine J.cut (fun O H n=>((O 1 = .list false (links.map au)/\O 2 = .list false (edges.map au)/\O 3=pA U 3)/\H (U,3)=some ⟨6,[bC false b]⟩)/\Sep H n [] [(U,3)]) (by refine⟨by simp[E],M.var⟩) ?_;clear E;rintro O H n3 ⟨⟨E,a⟩,M⟩;refine zE fun _ V=>?_
 simp[E,a];apply V;refine J.cut (fun O H n=>∃ (v5:I),((O 1 = .list false (links.map au)/\O 2 = .list false (edges.map au)/\O 3=pA U 3/\O 8=v5)/\H (U,3)=some ⟨6,[bC false b]⟩)/\Sep H n [oI v5 ([]:List Int)] [(U,3)]) (by refine⟨.arr (n3,11) 0 0 0,by simp[E,a],(Sep.addEmpty (l:=[.c]) M)⟩) ?_;clear E a;rintro O H n6 ⟨v5,⟨E,a⟩,M⟩;refine zE fun _ V=>?_
 obtain⟨hb7,h⟩:=h;obtain⟨r8,er8,h⟩:=aH h;simp[E,a];refine zW (rZ edges hb7) e104 (.cons (db false edges) .nil) M (by simp[E,a]) ?_;rintro v9 f5 f6 _ M rfl f7 b1;rw[<- er8] at M;have a:=(b1 _ (by simp)).trans a;simp[E,a];apply V;refine J.cut (fun O H n=>∃ (L N:I),((O 1 = .list false (links.map au)/\O 3=pA U 3/\O 8=N/\O 9=L)/\H (U,3)=some ⟨6,[bC false b]⟩)/\Sep H n [oI L r8,oI N ([]:List Int)] [(U,3)]) (by refine⟨v9,v5,by simp[E,a],M⟩) ?_;clear E a;rintro O H n18 ⟨L,N,⟨E,a⟩,M⟩;refine zS fun _ V=>?_
 simp[E,a];apply V;apply J.block;refine J.aL h (fun (sJ:Int × (List Int) × (List Int)) O H n=>match sJ with | (i29,p,d)=>∃ (u B:I),((O 1 = .list false (links.map au)/\O 3=pA U 3/\O 8=B/\O 9=u/\O 10=int i29)/\H (U,3)=some ⟨6,[bC false b]⟩)/\Sep H n [oI u d,oI B p] [(U,3)]) (by refine⟨L,N,by simp[E,a],M⟩) ?_;clear E a;rintro⟨i29,p,d⟩ O H n34 K h ⟨u,B,⟨E,a⟩,M⟩ ad;refine zS fun _ V=>?_
 obtain⟨f8,b2,h⟩:=aH h;have f38:=fun H=>aQ (H:=H) (fr:=false) (f:=au) aO b2
 obtain⟨cc,ce,h⟩:=aH h;have f40:=bg (k:=.i64) ce;simp[E,a,f38,f40,-aw,-aJ];apply V;refine J.ite (b:=cc) (by simp[E,a]) (fun i=>?_) (fun i=>?_)
 ·replace h:=h.1 i;apply zK;apply J.block;apply J.seq;refine J.fv av aE bL (by decide) (by kernel_rfl) fun _ V=>?_
  obtain⟨ch,h⟩:=h;obtain⟨ci,C,h⟩:=aH h;have f43:=fun H=>aR (H:=H) (fr:=false) (f:=au) (k:=.i64) aO (fun _=>rfl) ch C
  obtain⟨cj,cl,h⟩:=aH h;have f45:=kL (k:=.i64) cl;simp[E,a,f43,f45,i,-ar,-aw];apply V;refine J.ite (b:=cj) (by simp[E,a,i]) (fun o=>?_) (fun o=>?_)
  ·replace h:=h.1 o;refine J.fv av aE bL (by decide) (by kernel_rfl) fun _ V=>?_
   obtain⟨co,h⟩:=h;obtain⟨f9,cs,h⟩:=aH h;have cv:=C.trans cs.symm;subst cv;have f49:=fun H=>aR (H:=H) (fr:=false) (f:=au) (k:=.i64) aO (fun _=>rfl) co C
   obtain⟨c0,h⟩:=h;obtain⟨v51,c1,h⟩:=aH h;have f52:=sB c0 c1;obtain⟨c2,h⟩:=h;obtain⟨af,c3,h⟩:=aH h;simp[E,a,f49,f52,i,o,-ar,-aw,-bb];refine cO [] [oI u d] [[int v51]] [au v51] M.f1 aO (by simp) (by simp) (by simp) (by simp[-aF,bl]) (b6 (aY.v _ aY.nil)) (by simp) (by simpa using c2) ?_;rintro be c4 c6 M da gc;replace M:Sep c4 c6 [oI be af,oI u d] [(U,3)]:=Sep.ap c3 M;have a:=(da _ (by simp)).trans a;simp[E,a,f49,f52,i,o,-ar,-aw];apply V;refine J.cut (fun O H n=>∃ (R T:I),((O 1 = .list false (links.map au)/\O 3=pA U 3/\O 8=R/\O 9=T/\O 10=int i29)/\H (U,3)=some ⟨6,[bC false b]⟩)/\Sep H n [oI R af,oI T d] [(U,3)]) (by refine⟨be,u,by simp[E,a,f49,f52,i,o,-ar,-aw],M⟩) ?_;clear E a;rintro O H gd ⟨R,T,⟨E,a⟩,M⟩;refine J.exit rfl ?_;refine zF fun _ V=>?_
   obtain⟨dc,h⟩:=h;obtain⟨dd,dg,h⟩:=aH h;have f66:=aV dc dg;simp[E,a,f66,-aw];apply V;refine ad (dd,af,d) _ _ _ h (by refine⟨T,R,by simp[E,a],M.f1⟩)
  replace h:=h.2 o;apply J.skip;refine zS fun _ V=>?_
  obtain⟨dl,h⟩:=h;obtain⟨gg,dr,h⟩:=aH h;have ds:=C.trans dr.symm;subst ds;have f70:=fun H=>aR (H:=H) (fr:=false) (f:=au) (k:=.i64) aO (fun _=>rfl) dl C
  obtain⟨am,h⟩:=h;obtain⟨bi,hv,ao,gi,W⟩:=Sep.eg M (by simp) am;subst hv;simp at W;obtain⟨gj,d0,h⟩:=aH h;have f77:=fun H (hm:H bi=some ⟨1,d.map au⟩)=>cM (H:=H) (k:=.i64) (off:=0) (len:=d.length) (g:=d.length) aO hm (by simp) rfl am
  have f78:=cx (q:=ci.toNat) am d0 rfl;obtain⟨bk,d1,h⟩:=aH h;have f80:=bg (k:=.i64) d1;simp[E,a,ao,W,f70,f77,f78,f80,i,o,-ar,-aw];apply V;refine J.cut (fun O H n=>∃ (aB A:I),((O 1 = .list false (links.map au)/\O 3=pA U 3/\O 8=A/\O 9=aB/\O 10=int i29/\O 44=bool bk)/\H (U,3)=some ⟨6,[bC false b]⟩)/\Sep H n [oI aB d,oI A p] [(U,3)]) (by refine⟨.arr bi d.length 0 d.length,B,by simp[E,a,ao,W,f70,f77,f78,f80,i,o,-ar,-aw],M⟩) ?_;clear E a ao W;rintro O H d2 ⟨aB,A,⟨E,a⟩,M⟩;refine J.ite (b:=bk) (by simp[E,a]) (fun j=>?_) (fun j=>?_)
  ·replace h:=h.1 j;refine J.ee av aE bL (by decide) (by kernel_rfl) fun _ V=>?_
   obtain⟨d3,h⟩:=h;obtain⟨br,d4,h⟩:=aH h;have f86:=fun H=>aR (H:=H) (fr:=false) (f:=au) (k:=.i64) aO (fun _=>rfl) d3 d4
   obtain⟨d5,h⟩:=h;obtain⟨d6,d7,h⟩:=aH h;simp[E,a,f86,j,-ar];refine bh.b7 av aE (DV d d5) e154 (.cons (Sep.cz M (bx (by simp))) .nil) (by decide) rfl (by simp[E,a,f86,j,-ar]) ?_;rw[<- d7];obtain⟨a0,h⟩:=h;obtain⟨a1,hv,d8,gn,D⟩:=Sep.eg M (by simp) a0;subst hv;simp at D;obtain⟨go,d9,h⟩:=aH h;have f95:=fun H (hm:H a1=some ⟨1,d.map au⟩)=>cM (H:=H) (k:=.i64) (off:=0) (len:=d.length) (g:=d.length) aO hm (by simp) rfl a0
   have f96:=cx (q:=br.toNat) a0 d9 rfl;obtain⟨e,eb,h⟩:=aH h;simp[E,a,d8,D,f86,f95,f96,j,-ar,-cB];refine nT (q:=br.toNat) (news:=au d6) [] [oI A p] M (by simp) (by simp;omega) (by simp) (by simp[-aF,bl]) (aY.v _ aY.nil) ?_;rintro ed M el;replace M:Sep ed d2 [oI (.arr a1 d.length 0 d.length) e,oI A p] [(U,3)]:=Sep.st eb M;have a:=(el _ (by simp)).trans a;simp[E,a,D,f86,f95,f96,j,-ar];apply V;refine J.cut (fun O H n=>∃ (a2 a3:I),((O 1 = .list false (links.map au)/\O 3=pA U 3/\O 8=a3/\O 9=a2/\O 10=int i29)/\H (U,3)=some ⟨6,[bC false b]⟩)/\Sep H n [oI a2 e,oI a3 p] [(U,3)]) (by refine⟨.arr a1 d.length 0 d.length,A,by simp[E,a,D,f86,f95,f96,j,-ar],M⟩) ?_;clear E a D;rintro O H n103 ⟨a2,a3,⟨E,a⟩,M⟩;refine zF fun _ V=>?_
   obtain⟨em,h⟩:=h;obtain⟨es,ev,h⟩:=aH h;have f106:=fun H=>aR (H:=H) (fr:=false) (f:=au) (k:=.i64) aO (fun _=>rfl) em ev
   obtain⟨a4,h⟩:=h;obtain⟨X,hv,ex,gs,F⟩:=Sep.eg M (by simp) a4;subst hv;simp at F;obtain⟨gu,ey,h⟩:=aH h;have f113:=fun H (hm:H X=some ⟨1,e.map au⟩)=>cM (H:=H) (k:=.i64) (off:=0) (len:=e.length) (g:=e.length) aO hm (by simp) rfl a4
   have f114:=cx (q:=es.toNat) a4 ey rfl;obtain⟨e0,h⟩:=h;obtain⟨bs,e1,h⟩:=aH h;have f117:=aV e0 e1;obtain⟨e2,h⟩:=h;obtain⟨a5,e3,h⟩:=aH h;simp[E,a,ex,F,f106,f113,f114,f117,-ar,-aw,-bb];refine cC [] [oI (.arr X e.length 0 e.length) e] [[int bs]] [au bs] M.f1 aO (by simp) (by simp) (by simp) (by simp[-aF,bl]) (b6 (aY.v _ aY.nil)) (by simp) (by simpa using e2) ?_;rintro bv e4 n122 M e5 gv;replace M:Sep e4 n122 [oI bv a5,oI (.arr X e.length 0 e.length) e] [(U,3)]:=Sep.ap e3 M;have a:=(e5 _ (by simp)).trans a;simp[E,a,F,f106,f113,f114,f117,-ar,-aw];apply V;refine J.cut (fun O H n=>∃ (Y v127:I),((O 1 = .list false (links.map au)/\O 3=pA U 3/\O 8=Y/\O 9=v127/\O 10=int i29)/\H (U,3)=some ⟨6,[bC false b]⟩)/\Sep H n [oI Y a5,oI v127 e] [(U,3)]) (by refine⟨bv,.arr X e.length 0 e.length,by simp[E,a,F,f106,f113,f114,f117,-ar,-aw],M⟩) ?_;clear E a F;rintro O H n128 ⟨Y,v127,⟨E,a⟩,M⟩;refine zI fun _ V=>?_
   obtain⟨e6,h⟩:=h;obtain⟨v130,e7,h⟩:=aH h;have f131:=aV e6 e7;simp[E,a,f131,-aw];apply V;refine ad (v130,a5,e) _ _ _ h (by refine⟨v127,Y,by simp[E,a],M.f1⟩)
  replace h:=h.2 j;apply J.skip;refine zF fun _ V=>?_
  obtain⟨e8,h⟩:=h;obtain⟨e9,fd,h⟩:=aH h;have f134:=fun H=>aR (H:=H) (fr:=false) (f:=au) (k:=.i64) aO (fun _=>rfl) e8 fd
  obtain⟨a9,h⟩:=h;obtain⟨ab,hv,fl,gw,G⟩:=Sep.eg M (by simp) a9;subst hv;simp at G;obtain⟨g0,fn,h⟩:=aH h;have f141:=fun H (hm:H ab=some ⟨1,d.map au⟩)=>cM (H:=H) (k:=.i64) (off:=0) (len:=d.length) (g:=d.length) aO hm (by simp) rfl a9
  have f142:=cx (q:=e9.toNat) a9 fn rfl;obtain⟨fo,h⟩:=h;obtain⟨b0,fs,h⟩:=aH h;have f145:=aV fo fs;obtain⟨fx,h⟩:=h;obtain⟨bd,fy,h⟩:=aH h;simp[E,a,fl,G,f134,f141,f142,f145,j,-ar,-aw,-bb];refine cC [] [oI (.arr ab d.length 0 d.length) d] [[int b0]] [au b0] M.f1 aO (by simp) (by simp) (by simp) (by simp[-aF,bl]) (b6 (aY.v _ aY.nil)) (by simp) (by simpa using fx) ?_;rintro v148 fz n150 M f0 g1;replace M:Sep fz n150 [oI v148 bd,oI (.arr ab d.length 0 d.length) d] [(U,3)]:=Sep.ap fy M;have a:=(f0 _ (by simp)).trans a;simp[E,a,G,f134,f141,f142,f145,j,-ar,-aw];apply V;refine J.cut (fun O H n=>∃ (v154 ac:I),((O 1 = .list false (links.map au)/\O 3=pA U 3/\O 8=v154/\O 9=ac/\O 10=int i29)/\H (U,3)=some ⟨6,[bC false b]⟩)/\Sep H n [oI v154 bd,oI ac d] [(U,3)]) (by refine⟨v148,.arr ab d.length 0 d.length,by simp[E,a,G,f134,f141,f142,f145,j,-ar,-aw],M⟩) ?_;clear E a G;rintro O H n156 ⟨v154,ac,⟨E,a⟩,M⟩;refine zI fun _ V=>?_
  obtain⟨f2,h⟩:=h;obtain⟨f3,f4,h⟩:=aH h;have f159:=aV f2 f4;simp[E,a,f159,-aw];apply V;refine ad (f3,bd,d) _ _ _ h (by refine⟨ac,v154,by simp[E,a],M.f1⟩)
 replace h:=h.2 i;refine J.exit rfl ?_;refine zE fun _ V=>?_
 simp[E,a,i];apply V;exact J.oo (v:=B) (w:=u) func133 results133 (by simp[E,a,i]) (by simp[E,a,i]) (hQ _ _ _ _ (Sep.sub (dO:=[]) (Sep.rq (aY.own (aY.own aY.nil)) M.f1) (by simp)) ⟨(p,d),h,rfl⟩)
theorem q7 (b:aG) (links:List Int) (edges:List Int) (hp:ep b links edges):bK prog 133 [.agg (bC false b),.list false (links.map au),.list false (edges.map au)] (.t [.s [.c],.s [.c]]) (fun r=>r = .tup [.list true (((jr b links edges).1).map au),.list true (((jr b links edges).2).map au)]):=(tL b links edges _ (AH b links edges hp)).mono (by rintro _ ⟨_,rfl,rfl⟩;rfl)
theorem Dv:aZ prog 100:=aZ.of func100 (by kernel_rfl) rfl
theorem u9 (b:aG) (node:Int) (places:List Int) (edges:List Int) (Z:((List Int) × (List Int))->Prop) (h:j7 b node places edges Z):bK prog 100 [.agg (bC false b),int node,.list false (places.map au),.list false (edges.map au)] (.t [.s [.c],.s [.c]]) (fun r=>∃ y:(List Int) × (List Int),Z y/\r = .tup [.list true (y.1.map au),.list true (y.2.map au)]):=by
 unfold j7 at h;have M:Sep bp 0 [] []:=Sep.nil (by simp);refine bK.of func100 rfl ntmps100 (by simp) fun Q hQ=>?_
 refine J.cut (fun O H n=>(O 0 = .agg (bC false b)/\O 1=int node/\O 2 = .list false (places.map au)/\O 3 = .list false (edges.map au))/\Sep H n [] []) (by refine⟨by simp ,M⟩) ?_;rintro O H U ⟨E,M⟩;refine zE fun _ V=>?_
 simp[E];apply V;refine J.cut (fun O H n=>((O 1=int node/\O 2 = .list false (places.map au)/\O 3 = .list false (edges.map au)/\O 4=pA U 4)/\H (U,4)=some ⟨6,[bC false b]⟩)/\Sep H n [] [(U,4)]) (by refine⟨by simp[E],M.var⟩) ?_;clear E;rintro O H n3 ⟨⟨E,d⟩,M⟩;refine zE fun _ V=>?_
 obtain⟨hb4,h⟩:=h;obtain⟨x5,ex5,h⟩:=aH h;have f6:=fun H=>aR (H:=H) (fr:=false) (f:=(ay.cells false)) (k:=.i64) cJ (fun _=>rfl) hb4 ex5
 simp[E,d,f6,-ar];apply V;refine J.cut (fun O H n=>((O 2 = .list false (places.map au)/\O 3 = .list false (edges.map au)/\O 4=pA U 4/\O 10=pA n3 10)/\H (U,4)=some ⟨6,[bC false b]⟩/\H (n3,10)=some ⟨3,[[int x5.control,int x5.parent,.list false (x5.links.map au)]]⟩)/\Sep H n [] [(n3,10),(U,4)]) (by refine⟨by simp[E,d,f6,-ar],M.var⟩) ?_;clear E d;rintro O H n8 ⟨⟨E,d,a⟩,M⟩;refine zE fun _ V=>?_
 obtain⟨hb9,h⟩:=h;obtain⟨e,u,h⟩:=aH h;simp[E,d,a];refine zW (q7 b x5.links edges hb9) e133 (.cons (dT false b) (.cons (db false x5.links) (.cons (db false edges) .nil))) M (by simp[E,d,a]) ?_;rintro v11 ab ac _ M rfl ad o;rw[<- u] at M;have d:=(o _ (by simp)).trans d;have a:=(o _ (by simp)).trans a;replace M:=Sep.fb M;obtain⟨L19,hv,A,M⟩:=M;subst hv;obtain⟨B,C,hv⟩:=bI (by simpa using A);subst hv;simp only[fP,List.cons_append,List.nil_append] at M;replace M:=Sep.nw M;replace M:=Sep.nw M;try simp only[List.append_eq,List.cons_append,List.nil_append,List.append_assoc] at M
 simp[E,d,a];apply V;refine J.cut (fun O H n=>∃ (v23 v24:I),((O 2 = .list false (places.map au)/\O 10=pA n3 10/\O 11=v23/\O 12=v24)/\H (n3,10)=some ⟨3,[[int x5.control,int x5.parent,.list false (x5.links.map au)]]⟩)/\Sep H n [oI v23 e.1,oI v24 e.2] [(n3,10)]) (by refine⟨B,C,by simp[E,d,a],(Sep.sub M (by simp +contextual))⟩) ?_;clear E d a;rintro O H n25 ⟨v23,v24,⟨E,a⟩,M⟩;refine J.seqM av [32] bL (by decide) (by kernel_rfl) fun _ V=>?_
 obtain⟨D,h⟩:=h;obtain⟨p,F,h⟩:=aH h;simp[E,a];refine rk.b7 (ai:=[32]) av (xX x5.parent places D) e134 (fun _ _ hE hN=>(.cons (.v _ _ _) (.cons (db false places) .nil))) rfl (by simp[E,a]) ?_;rw[<- F];obtain⟨G,K,h⟩:=aH h;simp[E,a,-dt];refine xD (l:=[.c]) (cs:=[int x5.control,int p]) (([x5.control,p]:List Int).map au) M (by simp) aO (by simp) (by simp) (by simp[E,a,ec,List.replicate,dt]) (by simp[chunks,List.range_succ]) (by simp) (by simp) ?_;rintro L N n31 M R af;replace M:Sep N n31 [oI (.arr L 2 0 2) G,oI v23 e.1,oI v24 e.2] [(n3,10)]:=by rw[K];exact M
 have a:=(R _ (by simp)).trans a;obtain⟨T,h⟩:=h;obtain⟨j,W,h⟩:=aH h;simp[E,a,-bb];refine qU (e.1.map au) M (by simp) aO (by simp) (by simp) (Sep.src M.f1 (by simp)) (by simp[-aF,bl]) (by simpa using T) ?_;rintro q X n40 M Y am;replace M:Sep X n40 [oI q j,oI v23 e.1,oI v24 e.2] [(n3,10)]:=by refine Sep.ap W ?_;exact M
 have a:=(Y _ (by simp)).trans a;simp[E,a];apply V;refine J.cut (fun O H n=>∃ (g i:I),(O 8=g/\O 9=i)/\Sep H n [oI g j,oI i e.2] []) (by refine⟨q,v24,by simp[E,a],(Sep.sub M.f1.dr (by simp +contextual))⟩) ?_;clear E a;rintro O H n46 ⟨g,i,E,M⟩;exact J.oo (v:=g) (w:=i) func100 results100 (by simp[E]) (by simp[E]) (hQ _ _ _ _ (Sep.sub (dO:=[]) (Sep.rq (aY.own (aY.own aY.nil)) M) (by simp)) ⟨(j,e.2),h,rfl⟩)
theorem kn (b:aG) (node:Int) (places:List Int) (edges:List Int) (hp:eo b node places edges):bK prog 100 [.agg (bC false b),int node,.list false (places.map au),.list false (edges.map au)] (.t [.s [.c],.s [.c]]) (fun r=>r = .tup [.list true (((dP b node places edges).1).map au),.list true (((dP b node places edges).2).map au)]):=(u9 b node places edges _ (yu b node places edges hp)).mono (by rintro _ ⟨_,rfl,rfl⟩;rfl)
theorem e101:aZ prog 101:=aZ.of func101 (by kernel_rfl) rfl
theorem xw (b:aG) (places:List Int) (edges:List Int) (Z:((List Int) × (List Int))->Prop) (h:lD b places edges Z):bK prog 101 [.agg (bC false b),.list false (places.map au),.list false (edges.map au)] (.t [.s [.c],.s [.c]]) (fun r=>∃ y:(List Int) × (List Int),Z y/\r = .tup [.list true (y.1.map au),.list true (y.2.map au)]):=by
 unfold lD at h;have M:Sep bp 0 [] []:=Sep.nil (by simp);refine bK.of func101 rfl ntmps101 (by simp) fun Q hQ=>?_
 refine J.cut (fun O H n=>(O 0 = .agg (bC false b)/\O 1 = .list false (places.map au)/\O 2 = .list false (edges.map au))/\Sep H n [] []) (by refine⟨by simp ,M⟩) ?_;rintro O H U ⟨E,M⟩;refine zE fun _ V=>?_
 simp[E];apply V;refine J.cut (fun O H n=>((O 1 = .list false (places.map au)/\O 2 = .list false (edges.map au)/\O 3=pA U 3)/\H (U,3)=some ⟨6,[bC false b]⟩)/\Sep H n [] [(U,3)]) (by refine⟨by simp[E],M.var⟩) ?_;clear E;rintro O H n3 ⟨⟨E,a⟩,M⟩;refine zE fun _ V=>?_
 simp[E,a];apply V;refine J.cut (fun O H n=>∃ (v5:I),((O 1 = .list false (places.map au)/\O 2 = .list false (edges.map au)/\O 3=pA U 3/\O 8=v5)/\H (U,3)=some ⟨6,[bC false b]⟩)/\Sep H n [oI v5 ([]:List Int)] [(U,3)]) (by refine⟨.arr (n3,14) 0 0 0,by simp[E,a],(Sep.addEmpty (l:=[.c]) M)⟩) ?_;clear E a;rintro O H n6 ⟨v5,⟨E,a⟩,M⟩;refine zS fun _ V=>?_
 simp[E,a];apply V;apply J.block;refine J.aL h (fun (sJ:Int × (List Int)) O H n=>match sJ with | (i14,g)=>∃ (p:I),((O 1 = .list false (places.map au)/\O 2 = .list false (edges.map au)/\O 3=pA U 3/\O 8=p/\O 9=int i14)/\H (U,3)=some ⟨6,[bC false b]⟩)/\Sep H n [oI p g] [(U,3)]) (by refine⟨v5,by simp[E,a],M⟩) ?_;clear E a;rintro⟨i14,g⟩ O H n17 K h ⟨p,⟨E,a⟩,M⟩ ac;refine zS fun _ V=>?_
 obtain⟨c6,ad,h⟩:=aH h;have f21:=fun H=>aQ (H:=H) (fr:=false) (f:=au) aO ad
 obtain⟨af,am,h⟩:=aH h;have f23:=bg (k:=.i64) am;simp[E,a,f21,f23,-aw,-aJ];apply V;refine J.ite (b:=af) (by simp[E,a]) (fun d=>?_) (fun d=>?_)
 ·replace h:=h.1 d;apply zK;apply J.block;refine zF fun _ V=>?_
  obtain⟨ao,h⟩:=h;obtain⟨aB,a0,h⟩:=aH h;have f26:=fun H=>aR (H:=H) (fr:=false) (f:=au) (k:=.i64) aO (fun _=>rfl) ao a0
  obtain⟨a1,h⟩:=h;obtain⟨W,a2,h⟩:=aH h;simp[E,a,f26,d,-ar];refine zA (xX aB places a1) e134 (.cons (.v _ _ _) (.cons (db false places) .nil)) (by simp[E,a,f26,d,-ar]) ?_;rintro _ rfl;rw[<- a2];obtain⟨a3,h⟩:=h;obtain⟨F,a4,h⟩:=aH h;simp[E,a,f26,d,-ar,-bb];refine cC [] [] [[int W]] [au W] M aO (by simp) (by simp) (by simp) (by simp[-aF,bl]) (b6 (aY.v _ aY.nil)) (by simp) (by simpa using a3) ?_;rintro v31 a5 n33 M a9 da;replace M:Sep a5 n33 [oI v31 F] [(U,3)]:=Sep.ap a4 M;have a:=(a9 _ (by simp)).trans a;simp[E,a,f26,d,-ar];apply V;refine J.cut (fun O H n=>∃ (v37:I),((O 1 = .list false (places.map au)/\O 2 = .list false (edges.map au)/\O 3=pA U 3/\O 8=v37/\O 9=int i14)/\H (U,3)=some ⟨6,[bC false b]⟩)/\Sep H n [oI v37 F] [(U,3)]) (by refine⟨v31,by simp[E,a,f26,d,-ar],M⟩) ?_;clear E a;rintro O H n38 ⟨v37,⟨E,a⟩,M⟩;refine zI fun _ V=>?_
  obtain⟨bd,h⟩:=h;obtain⟨v40,be,h⟩:=aH h;have f41:=aV bd be;simp[E,a,f41,-aw];apply V;refine ac (v40,F) _ _ _ h (by refine⟨v37,by simp[E,a],M⟩)
 replace h:=h.2 d;refine J.exit rfl ?_;refine zE fun _ V=>?_
 simp[E,a,d];apply V;refine J.cut (fun O H n=>∃ (q u:I),((O 2 = .list false (edges.map au)/\O 3=pA U 3/\O 8=u/\O 10=q)/\H (U,3)=some ⟨6,[bC false b]⟩)/\Sep H n [oI q ([]:List Int),oI u g] [(U,3)]) (by refine⟨.arr (n17,32) 0 0 0,p,by simp[E,a,d],(Sep.addEmpty (l:=[.c]) M)⟩) ?_;clear E a;rintro O H n45 ⟨q,u,⟨E,a⟩,M⟩;refine zS fun _ V=>?_
 simp[E,a];apply V;apply J.block;refine J.aL h (fun (sJ:Int × (List Int)) O H n=>match sJ with | (i55,G)=>∃ (L i:I),((O 2 = .list false (edges.map au)/\O 3=pA U 3/\O 8=i/\O 10=L/\O 11=int i55)/\H (U,3)=some ⟨6,[bC false b]⟩)/\Sep H n [oI L G,oI i g] [(U,3)]) (by refine⟨q,u,by simp[E,a],M⟩) ?_;clear E a;rintro⟨i55,G⟩ O H n59 K h ⟨L,i,⟨E,a⟩,M⟩ bi;refine zS fun _ V=>?_
 obtain⟨dc,bk,h⟩:=aH h;have f63:=fun H=>aQ (H:=H) (fr:=false) (f:=aN.cells) eN bk
 obtain⟨br,bs,h⟩:=aH h;have f65:=bg (k:=.i64) bs;simp[E,a,f63,f65,-aw,-aJ];apply V;refine J.ite (b:=br) (by simp[E,a]) (fun e=>?_) (fun e=>?_)
 ·replace h:=h.1 e;apply zK;apply J.block;refine zF fun _ V=>?_
  obtain⟨bv,h⟩:=h;obtain⟨X,b0,h⟩:=aH h;have f68:=fun H=>aR (H:=H) (fr:=false) (f:=aN.cells) (k:=.i64) eN (fun _=>rfl) bv b0
  obtain⟨b1,h⟩:=h;obtain⟨N,b2,h⟩:=aH h;simp[E,a,f68,e,-ar,-bb];refine cC [] [oI i g] [[int X.link]] [au X.link] M aO (by simp) (by simp) (by simp) (by simp[-aF,bl]) (b6 (aY.v _ aY.nil)) (by simp) (by simpa using b1) ?_;rintro Y cc ce M ch dd;replace M:Sep cc ce [oI Y N,oI i g] [(U,3)]:=Sep.ap b2 M;have a:=(ch _ (by simp)).trans a;simp[E,a,f68,e,-ar];apply V;refine J.cut (fun O H n=>∃ (A B:I),((O 2 = .list false (edges.map au)/\O 3=pA U 3/\O 8=B/\O 10=A/\O 11=int i55)/\H (U,3)=some ⟨6,[bC false b]⟩)/\Sep H n [oI A N,oI B g] [(U,3)]) (by refine⟨Y,i,by simp[E,a,f68,e,-ar],M⟩) ?_;clear E a;rintro O H dg ⟨A,B,⟨E,a⟩,M⟩;refine zI fun _ V=>?_
  obtain⟨ci,h⟩:=h;obtain⟨cj,cl,h⟩:=aH h;have f82:=aV ci cl;simp[E,a,f82,-aw];apply V;refine bi (cj,N) _ _ _ h (by refine⟨A,B,by simp[E,a],M⟩)
 replace h:=h.2 e;refine J.exit rfl ?_;refine zE fun _ V=>?_
 obtain⟨co,h⟩:=h;obtain⟨j,cs,h⟩:=aH h;simp[E,a,e];refine zW (q7 b G edges co) e133 (.cons (dT false b) (.cons (Sep.cz M (bx (by simp))) (.cons (db false edges) .nil))) M (by simp[E,a,e]) ?_;rintro v85 dl ds _ M rfl d0 cv;rw[<- cs] at M;have a:=(cv _ (by simp)).trans a;replace M:=Sep.fb M;obtain⟨L93,hv,c0,M⟩:=M;subst hv;obtain⟨v91,c1,hv⟩:=bI (by simpa using c0);subst hv;simp only[fP,List.cons_append,List.nil_append] at M;replace M:=Sep.nw M;replace M:=Sep.nw M;try simp only[List.append_eq,List.cons_append,List.nil_append,List.append_assoc] at M
 simp[E,a,e];apply V;refine J.cut (fun O H n=>∃ (R C o:I),(O 8=R/\O 12=C/\O 13=o)/\Sep H n [oI R g,oI C j.1,oI o j.2] []) (by refine⟨i,v91,c1,by simp[E,a,e],(Sep.sub M.dr (by simp +contextual))⟩) ?_;clear E a;rintro O H n100 ⟨R,C,o,E,M⟩;refine zE fun _ V=>?_
 obtain⟨c2,h⟩:=h;obtain⟨T,c3,h⟩:=aH h;simp[E,-bb];refine cW (j.1.map au) M (by simp) aO (by simp) (by simp) (Sep.src M.f1 (by simp)) (by simp[-aF,bl]) (by simpa using c2) ?_;rintro ab c4 n105 M d1 d2;replace M:Sep c4 n105 [oI ab T,oI C j.1,oI o j.2] []:=by refine Sep.ap c3 ?_;exact M
 simp[E];apply V;refine J.cut (fun O H n=>∃ (v109 D:I),(O 6=v109/\O 7=D)/\Sep H n [oI v109 T,oI D j.2] []) (by refine⟨ab,o,by simp[E],M.f1.dr⟩) ?_;clear E;rintro O H n111 ⟨v109,D,E,M⟩;exact J.oo (v:=v109) (w:=D) func101 results101 (by simp[E]) (by simp[E]) (hQ _ _ _ _ (Sep.sub (dO:=[]) (Sep.rq (aY.own (aY.own aY.nil)) M) (by simp)) ⟨(T,j.2),h,rfl⟩)
theorem vl (b:aG) (places:List Int) (edges:List Int) (hp:ie b places edges):bK prog 101 [.agg (bC false b),.list false (places.map au),.list false (edges.map au)] (.t [.s [.c],.s [.c]]) (fun r=>r = .tup [.list true (((kF b places edges).1).map au),.list true (((kF b places edges).2).map au)]):=(xw b places edges _ (BI b places edges hp)).mono (by rintro _ ⟨_,rfl,rfl⟩;rfl)
theorem e64:aZ prog 64:=aZ.of func64 (by kernel_rfl) rfl
theorem uE (b:aG) (order:List Int) (Z:((List Int) × (List Int))->Prop) (h:ke b order Z):bK prog 64 [.agg (bC false b),.list false (order.map au)] (.t [.s [.c],.s [.c]]) (fun r=>∃ y:(List Int) × (List Int),Z y/\r = .tup [.list true (y.1.map au),.list true (y.2.map au)]):=by
 unfold ke at h;have M:Sep bp 0 [] []:=Sep.nil (by simp);refine bK.of func64 rfl ntmps64 (by simp) fun Q hQ=>?_
 refine J.cut (fun O H n=>(O 0 = .agg (bC false b)/\O 1 = .list false (order.map au))/\Sep H n [] []) (by refine⟨by simp ,M⟩) ?_;rintro O H U ⟨E,M⟩;refine zE fun _ V=>?_
 simp[E];apply V;refine J.cut (fun O H n=>((O 1 = .list false (order.map au)/\O 2=pA U 2)/\H (U,2)=some ⟨6,[bC false b]⟩)/\Sep H n [] [(U,2)]) (by refine⟨by simp[E],M.var⟩) ?_;clear E;rintro O H n3 ⟨⟨E,a⟩,M⟩;refine zE fun _ V=>?_
 simp[E,a];apply V;refine J.cut (fun O H n=>∃ (v5:I),((O 1 = .list false (order.map au)/\O 2=pA U 2/\O 6=v5)/\H (U,2)=some ⟨6,[bC false b]⟩)/\Sep H n [oI v5 ([]:List Int)] [(U,2)]) (by refine⟨.arr (n3,14) 0 0 0,by simp[E,a],(Sep.addEmpty (l:=[.c]) M)⟩) ?_;clear E a;rintro O H n6 ⟨v5,⟨E,a⟩,M⟩;refine zE fun _ V=>?_
 obtain⟨hb7,h⟩:=h;obtain⟨r8,er8,h⟩:=aH h;simp[E,a];refine zW (lk b.edges hb7) e99 (.cons (.v _ _ _) .nil) M (by simp[E,a]) ?_;rintro v9 ed el _ M rfl em be;rw[<- er8] at M;have a:=(be _ (by simp)).trans a;simp[E,a];apply V;refine J.cut (fun O H n=>∃ (T W:I),((O 1 = .list false (order.map au)/\O 2=pA U 2/\O 6=W/\O 7=T)/\H (U,2)=some ⟨6,[bC false b]⟩)/\Sep H n [oI T r8,oI W ([]:List Int)] [(U,2)]) (by refine⟨v9,v5,by simp[E,a],M⟩) ?_;clear E a;rintro O H n18 ⟨T,W,⟨E,a⟩,M⟩;refine zE fun _ V=>?_
 obtain⟨bi,bk,h⟩:=aH h;have f20:=fun H=>aQ (H:=H) (fr:=false) (f:=(ay.cells false)) cJ bk
 obtain⟨br,h⟩:=h;obtain⟨bs,bv,h⟩:=aH h;simp[E,a,f20,-aJ];refine zW (lk bi br) e99 (.cons (.v _ _ _) .nil) M (by simp[E,a,f20,-aJ]) ?_;rintro v23 es n25 _ M rfl ev b0;rw[<- bv] at M;have a:=(b0 _ (by simp)).trans a;simp[E,a,f20,-aJ];apply V;refine J.cut (fun O H n=>∃ (v30 v31 X:I),((O 1 = .list false (order.map au)/\O 2=pA U 2/\O 6=X/\O 7=v31/\O 8=v30)/\H (U,2)=some ⟨6,[bC false b]⟩)/\Sep H n [oI v30 bs,oI v31 r8,oI X ([]:List Int)] [(U,2)]) (by refine⟨v23,T,W,by simp[E,a,f20,-aJ],M⟩) ?_;clear E a;rintro O H n33 ⟨v30,v31,X,⟨E,a⟩,M⟩;refine zS fun _ V=>?_
 simp[E,a];apply V;apply J.block;refine J.aL h (fun (sJ:Int × (List Int) × (List Int) × (List Int)) O H n=>match sJ with | (i47,d,B,j)=>∃ (v51 Y v53:I),((O 1 = .list false (order.map au)/\O 2=pA U 2/\O 6=v53/\O 7=Y/\O 8=v51/\O 9=int i47)/\H (U,2)=some ⟨6,[bC false b]⟩)/\Sep H n [oI v51 d,oI Y B,oI v53 j] [(U,2)]) (by refine⟨v30,v31,X,by simp[E,a],M⟩) ?_;clear E a;rintro⟨i47,d,B,j⟩ O H ex K h ⟨v51,Y,v53,⟨E,a⟩,M⟩ b1;refine zS fun _ V=>?_
 obtain⟨ey,b2,h⟩:=aH h;have f58:=fun H=>aQ (H:=H) (fr:=false) (f:=au) aO b2
 obtain⟨cc,ce,h⟩:=aH h;have f60:=bg (k:=.i64) ce;simp[E,a,f58,f60,-aw,-aJ];apply V;refine J.ite (b:=cc) (by simp[E,a]) (fun u=>?_) (fun u=>?_)
 ·replace h:=h.1 u;apply zK;apply J.block;refine J.cut (fun O H n=>∃ (o C A:I),((O 1 = .list false (order.map au)/\O 2=pA U 2/\O 6=A/\O 7=C/\O 8=o/\O 9=int i47)/\H (U,2)=some ⟨6,[bC false b]⟩)/\Sep H n [oI o d,oI C B,oI A j] [(U,2)]) (by refine⟨v51,Y,v53,by simp[E,a,u],M⟩) ?_;clear E a;rintro O H e0 ⟨o,C,A,⟨E,a⟩,M⟩;obtain⟨a5,h⟩:=h;obtain⟨ab,a9,h⟩:=aH h;have f67:=fun H=>aR (H:=H) (fr:=false) (f:=au) (k:=.i64) aO (fun _=>rfl) a5 a9
  obtain⟨ch,h⟩:=h;obtain⟨e,ci,h⟩:=aH h;refine J.xc (fun H n=>H (U,2)=some ⟨6,[bC false b]⟩/\Sep H n [oI o d,oI C B,oI A j] [(U,2)]) [7,8,9,10,11,12] (.free 0 (.free 1 (.free 2 (.free 3 (.free 4 (.free 5 (.free 6 (.aP 7 (.aP 8 (.aP 9 (.aP 10 (.aP 11 (.aP 12 (.fin) (.stop)) (.stop)) (.aP 11 (.aP 10 (.aP 12 (.fin) (.stop)) (.stop)) (.stop))) (.aP 10 (.aP 9 (.aP 11 (.aP 12 (.fin) (.stop)) (.stop)) (.stop)) (.stop))) (.stop)) (.stop))))))))) (fun O H n=>∃ (v72 F ao v75:I),((O 1 = .list false (order.map au)/\O 2=pA U 2/\O 6=v75/\O 8=ao/\O 9=int i47/\O 10=v72/\O 11=F)/\H (U,2)=some ⟨6,[bC false b]⟩)/\Sep H n [oI v72 e.1,oI F e.2,oI ao d,oI v75 j] [(U,2)]) bL (by decide) (by kernel_rfl) ?_ ?_
  ·refine RunT.free (.agg (bC false b)) rfl rfl ⟨a,M⟩ (fun H n hS=>by obtain⟨a,M⟩:=hS;exact (by exact aA av (by rw[ax];simp[E,a,f67,-ar]))) ?_;refine RunT.free (.list false (order.map au)) rfl rfl ⟨a,M⟩ (fun H n hS=>by obtain⟨a,M⟩:=hS;exact (by exact aA av (by rw[ax];simp[E,a,f67,-ar]))) ?_;refine RunT.free (int i47) rfl rfl ⟨a,M⟩ (fun H n hS=>by obtain⟨a,M⟩:=hS;exact (by exact aA av (by rw[ax];simp[E,a,f67,-ar]))) ?_;refine RunT.free (.iptr false [int ab]) rfl rfl ⟨a,M⟩ (fun H n hS=>by obtain⟨a,M⟩:=hS;exact (by have f67:=fun H=>aR (H:=H) (fr:=false) (f:=au) (k:=.i64) aO (fun _=>rfl) a5 a9;exact aA av (by rw[ax];simp[E,a,f67,-ar]))) ?_;refine RunT.free (int ab) rfl rfl ⟨a,M⟩ (fun H n hS=>by obtain⟨a,M⟩:=hS;exact (by exact aA av (by rw[ax];simp[E,a,f67,-ar]))) ?_;refine RunT.free o rfl rfl ⟨a,M⟩ (fun H n hS=>by obtain⟨a,M⟩:=hS;exact (by exact aA av (by rw[ax];simp[E,a,f67,-ar]))) ?_;refine RunT.free C rfl rfl ⟨a,M⟩ (fun H n hS=>by obtain⟨a,M⟩:=hS;exact (by exact aA av (by rw[ax];simp[E,a,f67,-ar]))) ?_;refine⟨?_,trivial⟩;refine RunT.kG (as1:=[.agg (bC false b),int ab,o,C]) rfl rfl (kn b ab d B ch) Dv (.cons (dT false b) (.cons (.v _ _ _) (.cons (Sep.cz M (bx (by simp))) (.cons (Sep.cz M.f1 (bx (by simp))) .nil)))) M (by simp[E,a,f67,-ar]) (by simp[E,a,f67,-ar]) ?_;rintro e1 cj cl _ M rfl e2 co;rw[<- ci] at M;replace M:=Sep.fb M;obtain⟨L85,hv,cs,M⟩:=M;subst hv;obtain⟨p,i,hv⟩:=bI (by simpa using cs);subst hv;simp only[fP,List.cons_append,List.nil_append] at M;replace M:=Sep.nw M;replace M:=Sep.nw M;try simp only[List.append_eq,List.cons_append,List.nil_append,List.append_assoc] at M
   replace M:Sep cj cl [oI o d,oI C B,oI A j,oI p e.1,oI i e.2] [(U,2)]:=M;have a:=(co _ (by simp)).trans a;refine⟨(fun hl=>absurd (hl.symm.trans (show ba _ _ _=true by kernel_rfl)) (by decide)),?_⟩;refine⟨?_,trivial⟩;refine RunT.same (v:=(.tup [p,i])) av rfl rfl (by simp[E,a,f67,-ar]) (fun hl=>absurd (hl.symm.trans (show ba _ _ _=true by kernel_rfl)) (by decide)) ?_;refine⟨?_,?_,trivial⟩
   ·have f100:=Sep.oc M.f3;refine RunT.same (v:=p) av rfl rfl (by simp[E,a,f67,f100,-az,-ar,-aF,bR,bl]) (fun hl=>absurd (hl.symm.trans (show ba _ _ _=true by kernel_rfl)) (by decide)) ?_;refine⟨?_,?_,trivial⟩
    ·have f107:=Sep.oc M.f4;refine RunT.same (v:=i) av rfl rfl (by simp[E,a,f67,f100,f107,-az,-ar,-aF,bR,bl]) (fun hl=>absurd (hl.symm.trans (show ba _ _ _=true by kernel_rfl)) (by decide)) ?_;refine⟨?_,trivial⟩;have f114:=Sep.oc M.f3;refine RunT.same (v:=p) av rfl rfl (by simp[E,a,f67,f100,f107,f114,-az,-ar,-aF,bR,bl]) (fun hl=>absurd (hl.symm.trans (show ba _ _ _=true by kernel_rfl)) (by decide)) ?_;refine⟨?_,trivial⟩;have f121:=Sep.oc M.f4;refine RunT.same (v:=i) av rfl rfl (by simp[E,a,f67,f100,f107,f114,f121,-az,-ar,-aF,bR,bl]) (fun hl=>absurd (hl.symm.trans (show ba _ _ _=true by kernel_rfl)) (by decide)) ?_;refine RunT.fin (by refine⟨p,i,o,A,by simp[E,a,f67,f100,f107,f114,f121,-az,-ar,-aF,bR,bl],M.f1.dr.f3.f3⟩)
    have f128:=Sep.oc M.f3;refine RunT.same (v:=p) av rfl rfl (by simp[E,a,f67,f100,f128,-az,-ar,-aF,bR,bl]) (fun hl=>absurd (hl.symm.trans (show ba _ _ _=true by kernel_rfl)) (by decide)) ?_;refine⟨?_,trivial⟩;have f135:=Sep.oc M.f4;refine RunT.same (v:=i) av rfl rfl (by simp[E,a,f67,f100,f128,f135,-az,-ar,-aF,bR,bl]) (fun hl=>absurd (hl.symm.trans (show ba _ _ _=true by kernel_rfl)) (by decide)) ?_;refine⟨?_,trivial⟩;have f142:=Sep.oc M.f4;refine RunT.same (v:=i) av rfl rfl (by simp[E,a,f67,f100,f128,f135,f142,-az,-ar,-aF,bR,bl]) (fun hl=>absurd (hl.symm.trans (show ba _ _ _=true by kernel_rfl)) (by decide)) ?_;refine RunT.fin (by refine⟨p,i,o,A,by simp[E,a,f67,f100,f128,f135,f142,-az,-ar,-aF,bR,bl],M.f1.dr.f3.f3⟩)
   have f149:=Sep.oc M.f4;refine RunT.same (v:=i) av rfl rfl (by simp[E,a,f67,f149,-az,-ar,-aF,bR,bl]) (fun hl=>absurd (hl.symm.trans (show ba _ _ _=true by kernel_rfl)) (by decide)) ?_;refine⟨?_,trivial⟩;have f156:=Sep.oc M.f3;refine RunT.same (v:=p) av rfl rfl (by simp[E,a,f67,f149,f156,-az,-ar,-aF,bR,bl]) (fun hl=>absurd (hl.symm.trans (show ba _ _ _=true by kernel_rfl)) (by decide)) ?_;refine⟨?_,trivial⟩;have f163:=Sep.oc M.f3;refine RunT.same (v:=p) av rfl rfl (by simp[E,a,f67,f149,f156,f163,-az,-ar,-aF,bR,bl]) (fun hl=>absurd (hl.symm.trans (show ba _ _ _=true by kernel_rfl)) (by decide)) ?_;refine⟨?_,trivial⟩;have f170:=Sep.oc M.f4;refine RunT.same (v:=i) av rfl rfl (by simp[E,a,f67,f149,f156,f163,f170,-az,-ar,-aF,bR,bl]) (fun hl=>absurd (hl.symm.trans (show ba _ _ _=true by kernel_rfl)) (by decide)) ?_;refine RunT.fin (by refine⟨p,i,o,A,by simp[E,a,f67,f149,f156,f163,f170,-az,-ar,-aF,bR,bl],M.f1.dr.f3.f3⟩)
  clear E a;rintro O H cv ⟨v72,F,ao,v75,⟨E,a⟩,M⟩;refine zE fun _ V=>?_
  obtain⟨c0,h⟩:=h;obtain⟨bd,c1,h⟩:=aH h;have f173:=fun H=>aR (H:=H) (fr:=false) (f:=au) (k:=.i64) aO (fun _=>rfl) c0 c1
  obtain⟨aB,h⟩:=h;obtain⟨a0,hv,c2,e3,G⟩:=Sep.eg M.f2 (by simp) aB;subst hv;simp at G;obtain⟨e4,c3,h⟩:=aH h;have f180:=fun H (hm:H a0=some ⟨1,d.map au⟩)=>cM (H:=H) (k:=.i64) (off:=0) (len:=d.length) (g:=d.length) aO hm (by simp) rfl aB
  have f181:=cx (q:=bd.toNat) aB c3 rfl;obtain⟨L,c4,h⟩:=aH h;simp[E,a,c2,G,f173,f180,f181,-ar,-cB];refine c8 (q:=bd.toNat) (news:=au i47) [] [oI v72 e.1,oI F e.2,oI v75 j] M.f2 (by simp) (by simp;omega) (by simp) (by simp[-aF,bl]) (aY.v _ aY.nil) ?_;rintro c6 M da;replace M:Sep c6 cv [oI (.arr a0 d.length 0 d.length) L,oI v72 e.1,oI F e.2,oI v75 j] [(U,2)]:=Sep.st c4 M;have a:=(da _ (by simp)).trans a;simp[E,a,G,f173,f180,f181,-ar];apply V;refine J.cut (fun O H n=>∃ (N ac R a1:I),((O 1 = .list false (order.map au)/\O 2=pA U 2/\O 6=a1/\O 8=N/\O 9=int i47/\O 10=ac/\O 11=R)/\H (U,2)=some ⟨6,[bC false b]⟩)/\Sep H n [oI N L,oI ac e.1,oI R e.2,oI a1 j] [(U,2)]) (by refine⟨.arr a0 d.length 0 d.length,v72,F,v75,by simp[E,a,G,f173,f180,f181,-ar],M⟩) ?_;clear E a G;rintro O H n190 ⟨N,ac,R,a1,⟨E,a⟩,M⟩;refine zE fun _ V=>?_
  simp[E,a];apply V;refine zF fun _ V=>?_
  obtain⟨dc,h⟩:=h;obtain⟨a2,dd,h⟩:=aH h;simp[E,a,-bb];refine cW (e.1.map au) M.f3 (by simp) aO (by simp) (by simp) (Sep.src M.f1 (by simp)) (by simp[-aF,bl]) (by simpa using dc) ?_;rintro v193 dg n195 M dl e5;replace M:Sep dg n195 [oI v193 a2,oI N L,oI ac e.1,oI R e.2] [(U,2)]:=by refine Sep.ap dd ?_;exact M
  have a:=(dl _ (by simp)).trans a;simp[E,a];apply V;refine J.cut (fun O H n=>∃ (ad af v201:I),((O 1 = .list false (order.map au)/\O 2=pA U 2/\O 6=ad/\O 7=v201/\O 8=af/\O 9=int i47)/\H (U,2)=some ⟨6,[bC false b]⟩)/\Sep H n [oI ad a2,oI af L,oI v201 e.2] [(U,2)]) (by refine⟨v193,N,R,by simp[E,a],M.f2.dr⟩) ?_;clear E a;rintro O H n202 ⟨ad,af,v201,⟨E,a⟩,M⟩;refine zI fun _ V=>?_
  obtain⟨ds,h⟩:=h;obtain⟨d0,d1,h⟩:=aH h;have f205:=aV ds d1;simp[E,a,f205,-aw];apply V;refine b1 (d0,L,e.2,a2) _ _ _ h (by refine⟨af,v201,ad,by simp[E,a],M.f2.f2⟩)
 replace h:=h.2 u;refine J.exit rfl ?_;refine zE fun _ V=>?_
 obtain⟨d2,h⟩:=h;obtain⟨D,d3,h⟩:=aH h;simp[E,a,u];refine zW (vl b d B d2) e101 (.cons (dT false b) (.cons (Sep.cz M (bx (by simp))) (.cons (Sep.cz M.f1 (bx (by simp))) .nil))) M (by simp[E,a,u]) ?_;rintro v208 e6 n210 _ M rfl e7 d4;rw[<- d3] at M;have a:=(d4 _ (by simp)).trans a;replace M:=Sep.fb M;obtain⟨L216,hv,d5,M⟩:=M;subst hv;obtain⟨d6,d7,hv⟩:=bI (by simpa using d5);subst hv;simp only[fP,List.cons_append,List.nil_append] at M;replace M:=Sep.nw M;replace M:=Sep.nw M;try simp only[List.append_eq,List.cons_append,List.nil_append,List.append_assoc] at M
 simp[E,a,u];apply V;refine J.cut (fun O H n=>∃ (a3 am v222:I),(O 6=a3/\O 12=am/\O 13=v222)/\Sep H n [oI a3 j,oI am D.1,oI v222 D.2] []) (by refine⟨v53,d6,d7,by simp[E,a,u],(Sep.sub M.dr.dr (by simp +contextual))⟩) ?_;clear E a;rintro O H n223 ⟨a3,am,v222,E,M⟩;refine zE fun _ V=>?_
 obtain⟨d8,h⟩:=h;obtain⟨a4,d9,h⟩:=aH h;simp[E,-bb];refine cW (D.1.map au) M (by simp) aO (by simp) (by simp) (Sep.src M.f1 (by simp)) (by simp[-aF,bl]) (by simpa using d8) ?_;rintro v226 eb n228 M e8 e9;replace M:Sep eb n228 [oI v226 a4,oI am D.1,oI v222 D.2] []:=by refine Sep.ap d9 ?_;exact M
 simp[E];apply V;refine J.cut (fun O H n=>∃ (v232 v233:I),(O 4=v232/\O 5=v233)/\Sep H n [oI v232 a4,oI v233 D.2] []) (by refine⟨v226,v222,by simp[E],M.f1.dr⟩) ?_;clear E;rintro O H n234 ⟨v232,v233,E,M⟩;exact J.oo (v:=v232) (w:=v233) func64 results64 (by simp[E]) (by simp[E]) (hQ _ _ _ _ (Sep.sub (dO:=[]) (Sep.rq (aY.own (aY.own aY.nil)) M) (by simp)) ⟨(a4,D.2),h,rfl⟩)
theorem yX (b:aG) (order:List Int) (hp:kS b order):bK prog 64 [.agg (bC false b),.list false (order.map au)] (.t [.s [.c],.s [.c]]) (fun r=>r = .tup [.list true (((kP b order).1).map au),.list true (((kP b order).2).map au)]):=(uE b order _ (yQ b order hp)).mono (by rintro _ ⟨_,rfl,rfl⟩;rfl)
end Go.Ab.Vg
namespace Go.Ab.Vg
open Go.Proofs
set_option maxRecDepth 100000
attribute [local simp] ay.cells aN.cells au jm a7 bC pA
theorem e178:aZ prog 178:=aZ.of func178 (by kernel_rfl) rfl
theorem vB (b:aG) (parent:Int) (Z:(List Int)->Prop) (h:kz b parent Z):bK prog 178 [.agg (bC false b),int parent] (.s [.c]) (fun r=>∃ y:List Int,Z y/\r = .list true (y.map au)):=by
 unfold kz at h;have M:Sep bp 0 [] []:=Sep.nil (by simp);refine bK.of func178 rfl ntmps178 (by simp) fun Q hQ=>?_
 refine J.cut (fun O H n=>(O 0 = .agg (bC false b)/\O 1=int parent)/\Sep H n [] []) (by refine⟨by simp ,M⟩) ?_;rintro O H U ⟨E,M⟩;refine zE fun _ V=>?_
 simp[E];apply V;refine J.cut (fun O H n=>((O 1=int parent/\O 2=pA U 2)/\H (U,2)=some ⟨6,[bC false b]⟩)/\Sep H n [] [(U,2)]) (by refine⟨by simp[E],M.var⟩) ?_;clear E;rintro O H n3 ⟨⟨E,a⟩,M⟩;refine zE fun _ V=>?_
 simp[E,a];apply V;refine J.cut (fun O H n=>∃ (v5:I),((O 1=int parent/\O 2=pA U 2/\O 5=v5)/\H (U,2)=some ⟨6,[bC false b]⟩)/\Sep H n [oI v5 ([]:List Int)] [(U,2)]) (by refine⟨.arr (n3,7) 0 0 0,by simp[E,a],(Sep.addEmpty (l:=[.c]) M)⟩) ?_;clear E a;rintro O H n6 ⟨v5,⟨E,a⟩,M⟩;refine zS fun _ V=>?_
 simp[E,a];apply V;apply J.block;refine J.aL h (fun (sJ:Int × (List Int)) O H n=>match sJ with | (i14,g)=>∃ (i:I),((O 1=int parent/\O 2=pA U 2/\O 5=i/\O 6=int i14)/\H (U,2)=some ⟨6,[bC false b]⟩)/\Sep H n [oI i g] [(U,2)]) (by refine⟨v5,by simp[E,a],M⟩) ?_;clear E a;rintro⟨i14,g⟩ O H n17 K h ⟨i,⟨E,a⟩,M⟩ p;refine zS fun _ V=>?_
 obtain⟨ab,t,h⟩:=aH h;have f21:=fun H=>aQ (H:=H) (fr:=false) (f:=(ay.cells false)) cJ t
 obtain⟨u,A,h⟩:=aH h;have f23:=bg (k:=.i64) A;simp[E,a,f21,f23,-aw,-aJ];apply V;refine J.ite (b:=u) (by simp[E,a]) (fun d=>?_) (fun d=>?_)
 ·replace h:=h.1 d;apply zK;apply J.block;refine zE fun _ V=>?_
  obtain⟨B,h⟩:=h;obtain⟨ac,C,h⟩:=aH h;have f26:=fun H=>aR (H:=H) (fr:=false) (f:=(ay.cells false)) (k:=.i64) cJ (fun _=>rfl) B C
  obtain⟨D,F,h⟩:=aH h;have f28:=jE (k:=.i64) F;simp[E,a,f26,f28,d,-ar,-aw];apply V;refine J.ite (b:=D) (by simp[E,a,d]) (fun e=>?_) (fun e=>?_)
  ·replace h:=h.1 e;refine zF fun _ V=>?_
   obtain⟨G,h⟩:=h;obtain⟨o,L,h⟩:=aH h;simp[E,a,d,e,-bb];refine cC [] [] [[int i14]] [au i14] M aO (by simp) (by simp) (by simp) (by simp[-aF,bl]) (b6 (aY.v _ aY.nil)) (by simp) (by simpa using G) ?_;rintro v31 N n33 M R ad;replace M:Sep N n33 [oI v31 o] [(U,2)]:=Sep.ap L M;have a:=(R _ (by simp)).trans a;simp[E,a,d,e];apply V;refine J.cut (fun O H n=>∃ (v37:I),((O 1=int parent/\O 2=pA U 2/\O 5=v37/\O 6=int i14)/\H (U,2)=some ⟨6,[bC false b]⟩)/\Sep H n [oI v37 o] [(U,2)]) (by refine⟨v31,by simp[E,a,d,e],M⟩) ?_;clear E a;rintro O H n38 ⟨v37,⟨E,a⟩,M⟩;refine zI fun _ V=>?_
   obtain⟨T,h⟩:=h;obtain⟨v40,W,h⟩:=aH h;have f41:=aV T W;simp[E,a,f41,-aw];apply V;refine p (v40,o) _ _ _ h (by refine⟨v37,by simp[E,a],M⟩)
  replace h:=h.2 e;apply J.skip;refine zI fun _ V=>?_
  obtain⟨X,h⟩:=h;obtain⟨q,Y,h⟩:=aH h;have f44:=aV X Y;simp[E,a,f44,d,e,-aw];apply V;refine J.cut (fun O H n=>∃ (j:I),((O 1=int parent/\O 2=pA U 2/\O 5=j/\O 6=int q)/\H (U,2)=some ⟨6,[bC false b]⟩)/\Sep H n [oI j g] [(U,2)]) (by refine⟨i,by simp[E,a,f44,d,e,-aw],M⟩) ?_;clear E a;rintro O H n46 ⟨j,⟨E,a⟩,M⟩;refine p (q,g) _ _ _ h (by refine⟨j,by simp[E,a],M⟩)
 replace h:=h.2 d;refine J.exit rfl ?_;refine zE fun _ V=>?_
 simp[E,a,d];apply V;exact J.bX (v:=i) func178 results178 (by simp[E,a,d]) (hQ _ _ _ _ (Sep.sub (dO:=[]) M (by simp)) ⟨g,h,rfl⟩)
theorem re (b:aG) (parent:Int) (hp:eR b parent):bK prog 178 [.agg (bC false b),int parent] (.s [.c]) (fun r=>r = .list true ((ql b parent).map au)):=(vB b parent _ (yB b parent hp)).mono (by rintro _ ⟨_,rfl,rfl⟩;rfl)
theorem e179:aZ prog 179:=aZ.of func179 (by kernel_rfl) rfl
theorem sD (b:aG) (parent:Int) (Z:(List Int)->Prop) (h:iS b parent Z):bK prog 179 [.agg (bC false b),int parent] (.s [.c]) (fun r=>∃ y:List Int,Z y/\r = .list true (y.map au)):=by
 unfold iS at h;have M:Sep bp 0 [] []:=Sep.nil (by simp);refine bK.of func179 rfl ntmps179 (by simp) fun Q hQ=>?_
 refine J.cut (fun O H n=>(O 0 = .agg (bC false b)/\O 1=int parent)/\Sep H n [] []) (by refine⟨by simp ,M⟩) ?_;rintro O H U ⟨E,M⟩;refine zE fun _ V=>?_
 simp[E];apply V;refine J.cut (fun O H n=>((O 1=int parent/\O 2=pA U 2)/\H (U,2)=some ⟨6,[bC false b]⟩)/\Sep H n [] [(U,2)]) (by refine⟨by simp[E],M.var⟩) ?_;clear E;rintro O H n3 ⟨⟨E,a⟩,M⟩;refine zE fun _ V=>?_
 simp[E,a];apply V;refine J.cut (fun O H n=>∃ (v5:I),((O 1=int parent/\O 2=pA U 2/\O 5=v5)/\H (U,2)=some ⟨6,[bC false b]⟩)/\Sep H n [oI v5 ([]:List Int)] [(U,2)]) (by refine⟨.arr (n3,7) 0 0 0,by simp[E,a],(Sep.addEmpty (l:=[.c]) M)⟩) ?_;clear E a;rintro O H n6 ⟨v5,⟨E,a⟩,M⟩;refine zS fun _ V=>?_
 simp[E,a];apply V;apply J.block;refine J.aL h (fun (sJ:Int × (List Int)) O H n=>match sJ with | (i14,g)=>∃ (i:I),((O 1=int parent/\O 2=pA U 2/\O 5=i/\O 6=int i14)/\H (U,2)=some ⟨6,[bC false b]⟩)/\Sep H n [oI i g] [(U,2)]) (by refine⟨v5,by simp[E,a],M⟩) ?_;clear E a;rintro⟨i14,g⟩ O H n17 K h ⟨i,⟨E,a⟩,M⟩ p;refine zS fun _ V=>?_
 obtain⟨ab,t,h⟩:=aH h;have f21:=fun H=>aQ (H:=H) (fr:=false) (f:=au) aO t
 obtain⟨u,A,h⟩:=aH h;have f23:=bg (k:=.i64) A;simp[E,a,f21,f23,-aw,-aJ];apply V;refine J.ite (b:=u) (by simp[E,a]) (fun d=>?_) (fun d=>?_)
 ·replace h:=h.1 d;apply zK;apply J.block;refine zE fun _ V=>?_
  obtain⟨B,h⟩:=h;obtain⟨ac,C,h⟩:=aH h;have f26:=fun H=>aR (H:=H) (fr:=false) (f:=au) (k:=.i64) aO (fun _=>rfl) B C
  obtain⟨D,F,h⟩:=aH h;have f28:=jE (k:=.i64) F;simp[E,a,f26,f28,d,-ar,-aw];apply V;refine J.ite (b:=D) (by simp[E,a,d]) (fun e=>?_) (fun e=>?_)
  ·replace h:=h.1 e;refine zF fun _ V=>?_
   obtain⟨G,h⟩:=h;obtain⟨o,L,h⟩:=aH h;simp[E,a,d,e,-bb];refine cC [] [] [[int i14]] [au i14] M aO (by simp) (by simp) (by simp) (by simp[-aF,bl]) (b6 (aY.v _ aY.nil)) (by simp) (by simpa using G) ?_;rintro v31 N n33 M R ad;replace M:Sep N n33 [oI v31 o] [(U,2)]:=Sep.ap L M;have a:=(R _ (by simp)).trans a;simp[E,a,d,e];apply V;refine J.cut (fun O H n=>∃ (v37:I),((O 1=int parent/\O 2=pA U 2/\O 5=v37/\O 6=int i14)/\H (U,2)=some ⟨6,[bC false b]⟩)/\Sep H n [oI v37 o] [(U,2)]) (by refine⟨v31,by simp[E,a,d,e],M⟩) ?_;clear E a;rintro O H n38 ⟨v37,⟨E,a⟩,M⟩;refine zI fun _ V=>?_
   obtain⟨T,h⟩:=h;obtain⟨v40,W,h⟩:=aH h;have f41:=aV T W;simp[E,a,f41,-aw];apply V;refine p (v40,o) _ _ _ h (by refine⟨v37,by simp[E,a],M⟩)
  replace h:=h.2 e;apply J.skip;refine zI fun _ V=>?_
  obtain⟨X,h⟩:=h;obtain⟨q,Y,h⟩:=aH h;have f44:=aV X Y;simp[E,a,f44,d,e,-aw];apply V;refine J.cut (fun O H n=>∃ (j:I),((O 1=int parent/\O 2=pA U 2/\O 5=j/\O 6=int q)/\H (U,2)=some ⟨6,[bC false b]⟩)/\Sep H n [oI j g] [(U,2)]) (by refine⟨i,by simp[E,a,f44,d,e,-aw],M⟩) ?_;clear E a;rintro O H n46 ⟨j,⟨E,a⟩,M⟩;refine p (q,g) _ _ _ h (by refine⟨j,by simp[E,a],M⟩)
 replace h:=h.2 d;refine J.exit rfl ?_;refine zE fun _ V=>?_
 simp[E,a,d];apply V;exact J.bX (v:=i) func179 results179 (by simp[E,a,d]) (hQ _ _ _ _ (Sep.sub (dO:=[]) M (by simp)) ⟨g,h,rfl⟩)
theorem py (b:aG) (parent:Int) (hp:ez b parent):bK prog 179 [.agg (bC false b),int parent] (.s [.c]) (fun r=>r = .list true ((mD b parent).map au)):=(sD b parent _ (wD b parent hp)).mono (by rintro _ ⟨_,rfl,rfl⟩;rfl)
end Go.Ab.Vg
namespace Go.Ab
variable [Inhabited cD]
def cr:Op->Nat
 | .move _ | .assign _ | .pick .. | .binOp .. | .unOp .. | .convert .. | .makeFunc .. | .extract .. | .field .. | .index .. | .build ..=>0
 | .load .. | .fieldAddr .. | .indexAddr .. | .nilCheck _ | .call ⟨.builtin .len,_,_⟩=>1
 | .alloc _=>3
 | .store ..=>4
 | _=>2
def lM (a b:Nat):Bool:=a == 0 || b == 0 || (a == 1 && (b == 1 || b == 3 || b == 4)) || (a == 3 && (b == 1 || b == 3 || b == 4)) || (a == 4 && (b == 1 || b == 3))
def Au (n0:Nat):I->Prop
 | .ptr id _ _ _ | .arr id _ _ _=>id.1<n0
 | _=>True
def dK (n0:Nat) (op:Op) (O:Env):Prop:=
 match op with
 | .load _ a | .fieldAddr _ a _ | .nilCheck a=>Au n0 (O.ev a)
 | .indexAddr _ x _=>Au n0 (O.ev x)
 | .call ⟨.builtin .len,args,_⟩=>∀ x ∈ args.toList,Au n0 (O.ev x)
 | .store _ a _=>∃ id g idx off,O.ev a = .ptr id g idx off/\n0<=id.1
 | _=>cr op=0
theorem iU {n0:Nat} {H H2:Heap} (hag:∀ id:Id,id.1<n0->H2 id=H id) {p:I} (hp:Au n0 p):cK H2 p=cK H p:=by
 cases p with
 | ptr id g idx off=>simp only[cK];rw[hag id hp]
 | _=>rfl
theorem pD {n0:Nat} {H H2:Heap} (hag:∀ id:Id,id.1<n0->H2 id=H id) {id:Id} {g:Nat} (hp:id.1<n0):live H2 id g=live H id g:=by
 unfold live;rw[hag id hp]
section
variable {Ty:Types} {O:Env} {H H2 H':Heap} {n n2 n' n0:Nat} {d:Option Tmp} {v:I} {op:Op}
theorem gF (hk:cr op=0) (h:aX Ty d op O H n=some (v,H',n')):H'=H/\n'=n/\∀ H2 n2,aX Ty d op O H2 n2=some (v,H2,n2):=by
 refine jB ?_ h;cases op with
 | call c=>
  obtain⟨cal,args,ats⟩:=c;cases cal with
  | builtin b=>cases b<;>simp[cr] at hk
  | _=>simp[cr] at hk
 | _=>first | rfl | (simp[cr] at hk)
theorem ei (hk:cr op=1) (hc:dK n0 op O) (hag:∀ id:Id,id.1<n0->H2 id=H id) (h:aX Ty d op O H n=some (v,H',n')):H'=H/\n'=n/\aX Ty d op O H2 n2=some (v,H2,n2):=by
 cases op with
 | load t a=>
  simp only[aX] at h ⊢;rw[iU hag hc]
  split at h
  ·split at h
   ·cases h;exact⟨rfl,rfl,rfl⟩
   ·cases h
  ·cases h
 | fieldAddr t a f=>
  simp only[aX] at h ⊢;rw[iU hag hc]
  split at h
  ·split at h
   ·split at h
    ·cases h
    ·rename_i hz
     cases h;exact⟨rfl,rfl,by rw[if_neg hz]⟩
   ·cases h
  ·cases h
 | nilCheck a=>
  simp only[aX] at h ⊢;rw[iU hag hc]
  split at h
  ·cases h;exact⟨rfl,rfl,rfl⟩
  ·cases h
 | indexAddr t x ix=>
  obtain⟨h1,h2,h3⟩:=bY h;refine⟨h2,h3,?_⟩;have:ar Ty H2 t (O.ev x) (O.ev ix)=ar Ty H t (O.ev x) (O.ev ix):=by
   simp only[dK] at hc;unfold ar
   split
   ·generalize O.ev x=p at hc;cases hkd:kd Ty t with
    | slice j=>cases p with
     | arr id g off len=>simp only[pD hag (show id.1<n0 from hc)]
     | _=>rfl
    | arr len j=>simp only[iU hag hc]
    | _=>rfl
   ·rfl
  simp only[aX,this,h1,Option.map_some]
 | call c=>
  obtain⟨cal,args,ats⟩:=c;cases cal with
  | builtin b=>
   cases b<;>simp[cr] at hk;simp only[aX] at h ⊢
   split at h
   ·rename_i x t hx ht
    obtain⟨h1,h2,h3⟩:=bY h;refine⟨h2,h3,?_⟩;have hcx:Au n0 (O.ev x):=hc x (by rw[hx];simp);have:aJ Ty H2 t (O.ev x)=aJ Ty H t (O.ev x):=by
     unfold aJ;generalize O.ev x=p at hcx;cases hkd:kd Ty t with
     | slice j=>cases p with
      | arr id g off len=>simp only[pD hag (show id.1<n0 from hcx)]
      | v x=>cases x<;>rfl
      | _=>rfl
     | string=>cases p with
      | v x=>cases x<;>rfl
      | _=>rfl
     | _=>rfl
    simp only[this,h1,Option.map_some]
   ·cases h
  | _=>simp[cr] at hk
 | _=>simp[cr] at hk
def tgt:Op->Env->Option Id
 | .store _ a _,O=>match O.ev a with
  | .ptr id _ _ _=>some id
  | _=>none
 | _,_=>none
theorem gA (hk:cr op=4) (hc:dK n0 op O) (h:aX Ty d op O H n=some (v,H',n')) :
  ∃ id ob ob',tgt op O=some id/\n0<=id.1/\H id=some ob/\H'=H.set id ob'/\n'=n/\∀ H2 n2,H2 id=some ob->aX Ty d op O H2 n2=some (v,H2.set id ob',n2):=by
 cases op with
 | store t a x=>
  obtain⟨id,g,idx,off,ha,hid⟩:=hc;simp only[aX] at h ⊢;rw[ha] at h ⊢
  split at h
  ·rename_i H1 hs
   cases h;unfold cB at hs
   split at hs
   ·rename_i i id1 g1 idx1 off1 new e1 e2 e3
    cases e2
    split at hs
    ·rename_i o hl
     split at hs
     ·rename_i hcond
      cases hs;obtain⟨l1,l2⟩:=cR hl;refine⟨id,o,o.write idx off new,by simp only[tgt,ha],hid,l1,rfl,rfl,fun H2 n2 h2=>?_⟩;have hl2:live H2 id g=some o:=by
       unfold live;rw[h2];simp[l2]
      simp only[cB,e1,e3,hl2,if_pos hcond]
     ·cases hs
    ·cases hs
   ·cases hs
  ·cases h
 | call c=>
  obtain⟨cal,args,ats⟩:=c;cases cal with
  | builtin b=>cases b<;>simp[cr] at hk
  | _=>simp[cr] at hk
 | _=>simp[cr] at hk
end
theorem jW {n0:Nat} {op:Op} {O:Env}:dK n0 op (loc op O)↔dK n0 op O:=by
 have h:∀ x,x ∈ op.operands->(loc op O).ev x=O.ev x:=fun x hx=>dh hx
 generalize loc op O=ρ' at h;cases op with
 | call c=>
  obtain⟨cal,args,ats⟩:=c;cases cal with
  | builtin b=>
   cases b<;>try rfl
   have ha:∀ x,x ∈ args.toList->ρ'.ev x=O.ev x:=fun x hx=>h x (by simp[Op.operands,Call.operands];simpa using hx)
   simp only[dK];exact⟨fun hc x hx=>by rw[<- ha x hx];exact hc x hx,fun hc x hx=>by rw[ha x hx];exact hc x hx⟩
  | _=>rfl
 | load t a=>simp only[dK];rw[h a (by simp[Op.operands])]
 | fieldAddr t a f=>simp only[dK];rw[h a (by simp[Op.operands])]
 | nilCheck a=>simp only[dK];rw[h a (by simp[Op.operands])]
 | indexAddr t x i=>simp only[dK];rw[h x (by simp[Op.operands])]
 | store t a x=>simp only[dK];rw[h a (by simp[Op.operands])]
 | _=>rfl
section
variable (Ty:Types) (ops:Array Oper) (n0:Nat)
def qD (o:Oper) (s:AS) (R:AS->Prop):Prop:=
 (eK ops o s.1=some false/\R (s.1.put o.dst k6,s.2)) \/
 (eK ops o s.1=some true/\cr o.op ≠ 3/\dK n0 o.op s.1/\∃ v H',aX Ty o.dst o.op s.1 s.2.1 s.2.2=some (v,H',s.2.2)/\R (s.1.put o.dst v,H',s.2.2)) \/
 (eK ops o s.1=some true/\∃ t k i,o.op = .alloc t/\o.dst=some k/\Ty t=some i/\∀ a,n0<=a->(∀ j,s.2.1 (a,j)=none)->R (s.1.put (some k) (.ptr (a,k) 1 0 0),s.2.1.set (a,k) ⟨i.zero.length,[i.zero.map .v]⟩,max s.2.2 (a+1)))
def Bd (s:AS):Prop:=n0<=s.2.2/\∀ id o,s.2.1 id=some o->id.1<s.2.2
end
theorem set_comm {H:Heap} {i j:Id} (o p:Ob) (h:i ≠ j):(H.set i o).set j p=(H.set j p).set i o:=by
 funext x
 simp only[Heap.set]
 by_cases h1:x=i<;>by_cases h2:x=j<;>simp_all
section
variable {Ty:Types} {ops:Array Oper} {n0:Nat}
theorem qD.mono {o:Oper} {s:AS} {R R':AS->Prop} (h:qD Ty ops n0 o s R) (hR:∀ s,R s->R' s):qD Ty ops n0 o s R':=by
 rcases h with ⟨h1,h2⟩ | ⟨h1,h2,h3,v,H',h4,h5⟩ | ⟨h1,t,k,i,h2,h3,h4,h5⟩
 ·exact .inl ⟨h1,hR _ h2⟩
 ·exact .inr (.inl ⟨h1,h2,h3,v,H',h4,hR _ h5⟩)
 ·exact .inr (.inr ⟨h1,t,k,i,h2,h3,h4,fun a ha hf=>hR _ (h5 a ha hf)⟩)
theorem eQ {op:Op} {O:Env} (h3:cr op ≠ 3) (h:dK n0 op O):cr op=0\/cr op=1\/cr op=4:=by
 cases op with
 | call c=>
  obtain⟨cal,args,ats⟩:=c;cases cal with
  | builtin b=>cases b<;>first | (simp[cr];done) | (simp[dK,cr] at h)
  | _=>simp[dK,cr] at h
 | buildSlice t len ps=>simp only[dK] at h;exact .inl h
 | _=>first | (simp[cr];done) | (simp[dK,cr] at h;done) | (simp[cr] at h3)
theorem uZ {s:AS} (hb:Bd n0 s) (j:Nat):s.2.1 (s.2.2,j)=none:=by
 cases h:s.2.1 (s.2.2,j) with
 | none=>rfl
 | some o=>have:=hb.2 _ o h;simp at this
theorem qD.bd {o:Oper} {s:AS} {R:AS->Prop} (hb:Bd n0 s) (h:qD Ty ops n0 o s R):qD Ty ops n0 o s fun s'=>Bd n0 s'/\R s':=by
 rcases h with ⟨h1,h2⟩ | ⟨h1,h2,h3,v,H',h4,h5⟩ | ⟨h1,t,k,i,h2,h3,h4,h5⟩
 ·exact .inl ⟨h1,hb,h2⟩
 ·refine .inr (.inl ⟨h1,h2,h3,v,H',h4,⟨hb.1,?_⟩,h5⟩);rcases eQ h2 h3 with hk | hk | hk
  ·obtain⟨rfl,_⟩:=gF hk h4;exact hb.2
  ·obtain⟨rfl,_⟩:=ei (H2:=s.2.1) (n2:=s.2.2) hk h3 (fun _ _=>rfl) h4;exact hb.2
  ·obtain⟨id,ob,ob',_,_,e2,rfl,_⟩:=gA hk h3 h4;intro id' o' ho';simp only at ho' ⊢
   by_cases he:id'=id
   ·rw[he];exact hb.2 _ _ e2
   ·rw[Heap.aD _ _ he] at ho';exact hb.2 _ _ ho'
 ·refine .inr (.inr ⟨h1,t,k,i,h2,h3,h4,fun a ha hf=>⟨⟨?_,?_⟩,h5 a ha hf⟩⟩)
  ·have:=hb.1;simp only;omega
  ·intro id' o' ho';simp only at ho' ⊢
   by_cases he:id'=(a,k)
   ·rw[he];simp only;omega
   ·rw[Heap.aD _ _ he] at ho';have:=hb.2 _ _ ho';omega
theorem qD.swap {oi oj:Oper} (hap:oi.apart ops oj=true) (hc:lM (cr oi.op) (cr oj.op)=true) {s:AS} (hb:Bd n0 s) {R:AS->Prop} (h:qD Ty ops n0 oi s fun si=>qD Ty ops n0 oj si R) :
  qD Ty ops n0 oj s fun sj=>qD Ty ops n0 oi sj R:=by
 obtain⟨h1,h2,h3⟩:=Oper.apart_spec hap;have sj:∀ v H n,aX Ty oj.dst oj.op (s.1.put oi.dst v) H n=aX Ty oj.dst oj.op s.1 H n:=fun v H n=>by rw[<- ax,fc (c7 h1),ax]
 have si:∀ v H n,aX Ty oi.dst oi.op (s.1.put oj.dst v) H n=aX Ty oi.dst oi.op s.1 H n:=fun v H n=>by rw[<- ax,fc (c7 h3),ax]
 have cj:∀ v,dK n0 oj.op (s.1.put oi.dst v)↔dK n0 oj.op s.1:=fun v=>by rw[<- jW,fc (c7 h1),jW]
 have ci:∀ v,dK n0 oi.op (s.1.put oj.dst v)↔dK n0 oi.op s.1:=fun v=>by rw[<- jW,fc (c7 h3),jW]
 have gj:∀ v,eK ops oj (s.1.put oi.dst v)=eK ops oj s.1:=fun v=>gJ h1
 have gi:∀ v,eK ops oi (s.1.put oj.dst v)=eK ops oi s.1:=fun v=>gJ h3
 have pc:∀ v u,(s.1.put oi.dst v).put oj.dst u=(s.1.put oj.dst u).put oi.dst v:=fun v u=>put_comm v u h2
 obtain⟨O,H,n⟩:=s;simp only at sj si cj ci gj gi pc;rcases h with ⟨hgi,h⟩ | ⟨hgi,hki,hci,v,Hi,hsi,h⟩ | ⟨hgi,t,k,i,hop,hd,hT,h⟩
 ·
  rcases h with ⟨hgj,h⟩ | ⟨hgj,hkj,hcj,u,Hj,hsj,h⟩ | ⟨hgj,t',k',i',hop',hd',hT',h⟩
  ·simp only[gj] at hgj;exact .inl ⟨hgj,.inl ⟨by simpa only [gi] using hgi,by simpa only [pc] using h⟩⟩
  ·simp only[gj,cj,sj] at hgj hcj hsj;exact .inr (.inl ⟨hgj,hkj,hcj,u,Hj,hsj,.inl ⟨by simpa only [gi] using hgi,by simpa only [pc] using h⟩⟩)
  ·simp only[gj] at hgj;rw[hd'] at pc gi;exact .inr (.inr ⟨hgj,t',k',i',hop',hd',hT',fun a ha hf=>.inl ⟨by simpa only [gi] using hgi,by simpa only [pc] using h a ha hf⟩⟩)
 ·
  rcases h with ⟨hgj,h⟩ | ⟨hgj,hkj,hcj,u,Hj,hsj,h⟩ | ⟨hgj,t',k',i',hop',hd',hT',h⟩
  ·simp only[gj] at hgj;exact .inl ⟨hgj,.inr (.inl ⟨by simpa only [gi] using hgi,hki,by simpa only [ci] using hci,v,Hi,by simpa only [si] using hsi,by simpa only [pc] using h⟩)⟩
  ·simp only[gj,cj,sj] at hgj hcj hsj;simp only at hsi hci hgi h;have key:∃ Hj',aX Ty oj.dst oj.op O H n=some (u,Hj',n)/\aX Ty oi.dst oi.op O Hj' n=some (v,Hj,n):=by
    rcases eQ hki hci with ki | ki | ki
    ·obtain⟨rfl,_,hall⟩:=gF ki hsi;exact⟨Hj,hsj,hall Hj n⟩
    ·obtain⟨rfl,_,_⟩:=ei (H2:=H) (n2:=n) ki hci (fun _ _=>rfl) hsi;rcases eQ hkj hcj with kj | kj | kj
     ·obtain⟨rfl,_,hall⟩:=gF kj hsj;exact⟨_,hsj,hsi⟩
     ·obtain⟨rfl,_,_⟩:=ei (H2:=Hi) (n2:=n) kj hcj (fun _ _=>rfl) hsj;exact⟨_,hsj,hsi⟩
     ·obtain⟨id,ob,ob',_,e1,e2,rfl,_,_⟩:=gA kj hcj hsj;refine⟨_,hsj,?_⟩;exact (ei ki hci (fun id' hid=>Heap.aD _ _ (by rintro rfl;omega)) hsi).2.2
    ·obtain⟨id,ob,ob',_,e1,e2,rfl,_,hall⟩:=gA ki hci hsi;rcases eQ hkj hcj with kj | kj | kj
     ·obtain⟨rfl,_,hall'⟩:=gF kj hsj;exact⟨H,hall' H n,hsi⟩
     ·obtain⟨rfl,_,hst⟩:=ei (H2:=H) (n2:=n) kj hcj (fun id' hid=>(Heap.aD _ _ (by rintro rfl;omega)).symm) hsj;exact⟨H,hst,hsi⟩
     ·rw[ki,kj] at hc;simp[lM] at hc
   obtain⟨Hj',k1,k2⟩:=key;exact .inr (.inl ⟨hgj,hkj,hcj,u,Hj',k1,.inr (.inl ⟨by simpa only [gi] using hgi,hki,by simpa only [ci] using hci,v,Hj,by simpa only [si] using k2,by simpa only [pc] using h⟩)⟩)
  ·
   simp only[gj] at hgj;rw[hd'] at pc gi si ci;refine .inr (.inr ⟨hgj,t',k',i',hop',hd',hT',fun a ha hf=>?_⟩);simp only at hsi hci hgi h hf;rcases eQ hki hci with ki | ki | ki
   ·obtain⟨rfl,_,hall⟩:=gF ki hsi;exact .inr (.inl ⟨by simpa only [gi] using hgi,hki,by simpa only [ci] using hci,v,_,by simpa only [si] using hall _ _,by simpa only [pc] using h a ha hf⟩)
   ·obtain⟨rfl,_,_⟩:=ei (H2:=H) (n2:=n) ki hci (fun _ _=>rfl) hsi;have hst:=(ei (n2:=max n (a+1)) ki hci (fun id' hid=>Heap.aD Hi ⟨i'.zero.length,[i'.zero.map .v]⟩ (i:=(a,k')) (by rintro rfl;simp only at hid;omega)) hsi).2.2;exact .inr (.inl ⟨by simpa only [gi] using hgi,hki,by simpa only [ci] using hci,v,_,by simpa only [si] using hst,by simpa only [pc] using h a ha hf⟩)
   ·obtain⟨id,ob,ob',_,e1,e2,rfl,_,hall⟩:=gA ki hci hsi;have hne:id ≠ (a,k'):=by rintro rfl;rw[hf k'] at e2;cases e2
    have hf':∀ j,(H.set id ob') (a,j)=none:=fun j=>by
     rw[Heap.aD _ _ (by rintro rfl;rw[hf j] at e2;cases e2)];exact hf j
    have hst:=hall (H.set (a,k') ⟨i'.zero.length,[i'.zero.map .v]⟩) (max n (a+1)) (by rw[Heap.aD _ _ hne];exact e2);have hfin:=h a ha hf';rw[set_comm _ _ hne] at hfin;exact .inr (.inl ⟨by simpa only [gi] using hgi,hki,by simpa only [ci] using hci,v,_,by simpa only [si] using hst,by simpa only [pc] using hfin⟩)
 ·
  simp only at hgi h;rw[hd] at pc gj sj cj;have hf0:∀ j,H (n,j)=none:=fun j=>uZ hb j
  have hn0:n0<=n:=hb.1;have hi3:cr oi.op=3:=by rw[hop];rfl
  rcases h n hn0 hf0 with ⟨hgj,_⟩ | ⟨hgj,hkj,hcj,u,Hj,hsj,_⟩ | ⟨hgj,t',k',i',hop',hd',hT',_⟩
  ·simp only[gj] at hgj;refine .inl ⟨hgj,.inr (.inr ⟨by simpa only [gi] using hgi,t,k,i,hop,hd,hT,fun a ha hf=>?_⟩)⟩;rcases h a ha hf with ⟨_,h⟩ | ⟨hg,_⟩ | ⟨hg,_⟩
   ·simpa only [pc] using h
   ·simp only[gj,hgj] at hg;cases hg
   ·simp only[gj,hgj] at hg;cases hg
  ·simp only[gj,cj,sj] at hgj hcj hsj;have back:∀ a,n0<=a->(∀ j,H (a,j)=none)->∃ ua Ha,aX Ty oj.dst oj.op O (H.set (a,k) ⟨i.zero.length,[i.zero.map .v]⟩) (max n (a+1))=some (ua,Ha,max n (a+1))/\R ((O.put (some k) (.ptr (a,k) 1 0 0)).put oj.dst ua,Ha,max n (a+1)):=by
    intro a ha hf;rcases h a ha hf with ⟨hg,_⟩ | ⟨_,_,_,ua,Ha,hs,hR⟩ | ⟨_,t',_,_,hop',_⟩
    ·simp only[gj,hgj] at hg;cases hg
    ·simp only[sj] at hs;exact⟨ua,Ha,hs,hR⟩
    ·exact absurd (by rw[hop'];rfl) hkj
   have hout:∀ (a:Nat) (id':Id),n0<=a->id'.1<n0->(H.set (a,k) ⟨i.zero.length,[i.zero.map .v]⟩) id'=H id':=fun a id' ha hid=>Heap.aD _ _ (by rintro rfl;simp only at hid;omega)
   rcases eQ hkj hcj with kj | kj | kj
   ·obtain⟨rfl,_,hall⟩:=gF kj hsj;refine .inr (.inl ⟨hgj,hkj,hcj,u,H,hall H n,.inr (.inr ⟨by simpa only [gi] using hgi,t,k,i,hop,hd,hT,fun a ha hf=>?_⟩)⟩);obtain⟨ua,Ha,hs,hR⟩:=back a ha hf;rw[hall] at hs;cases hs;simpa only [pc] using hR
   ·have hst:=(ei (H2:=H) (n2:=n) kj hcj (fun id' hid=>(hout n id' hn0 hid).symm) hsj).2.2;refine .inr (.inl ⟨hgj,hkj,hcj,u,H,hst,.inr (.inr ⟨by simpa only [gi] using hgi,t,k,i,hop,hd,hT,fun a ha hf=>?_⟩)⟩);obtain⟨ua,Ha,hs,hR⟩:=back a ha hf;have hst2:=(ei (H2:=H.set (a,k) ⟨i.zero.length,[i.zero.map .v]⟩) (n2:=max n (a+1)) kj hcj (fun id' hid=>hout a id' ha hid) hst).2.2;rw[hst2] at hs;cases hs;simpa only [pc] using hR
   ·obtain⟨id,o1,o1',t1,_,e2,rfl,_,hall⟩:=gA kj hcj hsj;obtain⟨u2,H2,hs2,_⟩:=back (n+1) (by omega) (fun j=>by
     cases hx:H (n+1,j) with
     | none=>rfl
     | some o=>have:=hb.2 (n+1,j) o hx;simp only at this;omega)
    obtain⟨id2,o2,o2',t2,_,e2',_⟩:=gA kj hcj hs2;rw[t1] at t2;cases t2;have hne:id ≠ (n,k):=by
     rintro rfl;rw[Heap.aD _ _ (by intro he;have:=congrArg Prod.fst he;simp only at this;omega),hf0 k] at e2';cases e2'
    rw[Heap.aD _ _ hne] at e2;refine .inr (.inl ⟨hgj,hkj,hcj,u,H.set id o1',hall H n e2,.inr (.inr ⟨by simpa only [gi] using hgi,t,k,i,hop,hd,hT,fun a ha hf=>?_⟩)⟩);simp only at hf ⊢;have hf':∀ j,H (a,j)=none:=fun j=>by
     have:=hf j
     by_cases he:(a,j)=id
     ·rw[he,Heap.a8] at this;cases this
     ·rwa [Heap.aD _ _ he] at this
    have hne':id ≠ (a,k):=by
     rintro rfl;rw[hf' k] at e2;cases e2
    obtain⟨ua,Ha,hs,hR⟩:=back a ha hf';rw[hall _ _ (by rw[Heap.aD _ _ hne'];exact e2)] at hs;cases hs;rw[set_comm _ _ hne',<- pc];exact hR
  ·simp only[gj] at hgj;rw[hd'] at pc gi;refine .inr (.inr ⟨hgj,t',k',i',hop',hd',hT',fun b hb' hfb=>.inr (.inr ⟨by simpa only [gi] using hgi,t,k,i,hop,hd,hT,fun a ha hfa=>?_⟩)⟩);simp only at hfa ⊢;have hab:a ≠ b:=by
    rintro rfl;have:=hfa k';rw[Heap.a8] at this;cases this
   have hfa':∀ j,H (a,j)=none:=fun j=>by
    have:=hfa j
    rwa [Heap.aD _ _ (by intro he;exact hab (congrArg Prod.fst he))] at this
   rcases h a ha hfa' with ⟨hg,_⟩ | ⟨_,hk3,_⟩ | ⟨_,t2,k2,i2,hop2,hd2,hT2,h2'⟩
   ·simp only[gj,hgj] at hg;cases hg
   ·exact absurd (by rw[hop'];rfl) hk3
   ·rw[hop'] at hop2;cases hop2;rw[hd'] at hd2;cases hd2;rw[hT'] at hT2;cases hT2;have hfin:=h2' b hb' (fun j=>by simp only;rw[Heap.aD _ _ (by intro he;exact hab (congrArg Prod.fst he).symm)];exact hfb j);simp only at hfin;rw[set_comm _ _ (by intro he;exact hab (congrArg Prod.fst he)),pc] at hfin;have hm:max (max n (b+1)) (a+1)=max (max n (a+1)) (b+1):=by omega
    rw[hm];exact hfin
theorem qD.some_ {o:Oper} {s:AS} {q:Prop} (hb:Bd n0 s) (h:qD Ty ops n0 o s fun _=>q):q:=by
 rcases h with ⟨_,h⟩ | ⟨_,_,_,_,_,_,h⟩ | ⟨_,_,_,_,_,_,_,h⟩
 ·exact h
 ·exact h
 ·exact h s.2.2 hb.1 (fun j=>uZ hb j)
variable (Ty ops n0) in
def kD (R:AS->Prop):Nat->Array Bool->AS->Prop
 | 0,listed,s=>Region.ready .any ops listed=[]/\R s
 | fuel+1,listed,s=>(Region.ready .any ops listed=[]->R s)/\∀ i ∈ Region.ready .any ops listed,∃ o,ops[i]?=some o/\qD Ty ops n0 o s (kD R fuel (listed.setIfInBounds i true))
variable (Ty ops n0) in
def D5 (R:AS->Prop):List Oper->AS->Prop
 | [],s=>R s
 | o::l,s=>qD Ty ops n0 o s (D5 R l)
theorem kD.first {R:AS->Prop} {i:Nat} {oi:Oper} (hi:ops[i]?=some oi) (al:List Nat) (hD:∀ j oj,ops[j]?=some oj->j ∈ al->j ≠ i->∃ e ∈ oj.after,Region.binds .any e=true/\e.on ∈ al):∀ (fuel:Nat) (listed:Array Bool) (s:AS),Bd n0 s ->
  (∀ j ∈ al,listed.getD j true=false)->(∀ j oj,ops[j]?=some oj->j ≠ i->listed.getD j true=false->j ∉ al->oi.apart ops oj=true/\lM (cr oi.op) (cr oj.op)=true) ->
  i ∈ Region.ready .any ops listed->qD Ty ops n0 oi s (kD Ty ops n0 R fuel (listed.setIfInBounds i true))->kD Ty ops n0 R (fuel+1) listed s:=by
 intro fuel
 induction fuel with
 | zero=>
  intro listed s hb _ _ hr H;refine⟨fun h=>(by rw[h] at hr;cases hr),fun j hj=>?_⟩
  by_cases hji:j=i
  ·subst hji;exact⟨oi,hi,H⟩
  ·have:=ready_mono hj hji;have h0:Region.ready .any ops (listed.setIfInBounds i true)=[]:=qD.some_ hb (H.mono fun s' h=>h.1);rw[h0] at this;cases this
 | succ fuel ih=>
  intro listed s hb hinv hfree hr H;refine⟨fun h=>(by rw[h] at hr;cases hr),fun j hj=>?_⟩
  by_cases hji:j=i
  ·subst hji;exact⟨oi,hi,H⟩
  ·obtain⟨hjun,oj,hoj,hall⟩:=mem_ready.1 hj;have hnot:j ∉ al:=fun hd=>by
    obtain⟨e,he,hb',hed⟩:=hD j oj hoj hd hji;have h1:=hall e he hb';have h0:=hinv e.on hed;rcases Nat.lt_or_ge e.on listed.size with h' | h'
    ·simp[h'] at h0 h1;rw[h0] at h1;cases h1
    ·simp[Array.getElem?_eq_none h'] at h1
   obtain⟨hap,hco⟩:=hfree j oj hoj hji hjun hnot;have H2:qD Ty ops n0 oi s fun s'=>qD Ty ops n0 oj s' (kD Ty ops n0 R fuel ((listed.setIfInBounds i true).setIfInBounds j true)):=H.mono fun s' h=>by
    obtain⟨oj',hoj',h'⟩:=h.2 j (ready_mono hj hji);rw[hoj] at hoj';cases hoj';exact h'
   refine⟨oj,hoj,(qD.bd hb (qD.swap hap hco hb H2)).mono fun sj ⟨hbj,hsj⟩=>ih (listed.setIfInBounds j true) sj hbj (fun k hk=>?_) (fun k ok hk hki hun hno=>?_) (ready_mono hr (Ne.symm hji)) ?_⟩
   ·have hjk:j ≠ k:=fun he=>hnot (he ▸ hk)
    rw[getD_set_ne true hjk];exact hinv k hk
   ·refine hfree k ok hk hki ?_ hno
    by_cases hjk:j=k
    ·subst hjk;exact hjun
    ·rw[getD_set_ne true hjk] at hun;exact hun
   ·rw[Array.setIfInBounds_comm _ _ hji];exact hsj
variable (ops) in
def xN (listed:Array Bool) (i:Nat):Bool:=
 match ops[i]? with
 | none=>false
 | some oi=>((behind ops i).all fun j => !(listed.getD j true) && match ops[j]? with
   | none=>true
   | some oj=>j == i || oj.after.any (fun e=>Region.binds .any e && (behind ops i).contains e.on)) &&
  (List.range ops.size).all fun j=>match ops[j]? with
  | none=>true
  | some oj=>j == i || listed.getD j true || (behind ops i).contains j || (oi.apart ops oj && lM (cr oi.op) (cr oj.op))
variable (ops) in
def C9:Nat->Nat->Array Bool->Bool
 | 0,_,listed=>(Region.ready .any ops listed).isEmpty
 | fuel+1,k,listed=>(Region.ready .any ops listed).contains k && xN ops listed k && C9 fuel (k+1) (listed.setIfInBounds k true)
variable (ops) in
def uW:Bool:=C9 ops ops.size 0 (Array.replicate ops.size false)
theorem xA {listed:Array Bool} {i:Nat} {oi:Oper} (hi:ops[i]?=some oi) (h:xN ops listed i=true) :
  (∀ j oj,ops[j]?=some oj->j ∈ behind ops i->j ≠ i->∃ e ∈ oj.after,Region.binds .any e=true/\e.on ∈ behind ops i)/\(∀ j ∈ behind ops i,listed.getD j true=false) /\
  ∀ j oj,ops[j]?=some oj->j ≠ i->listed.getD j true=false->j ∉ behind ops i->oi.apart ops oj=true/\lM (cr oi.op) (cr oj.op)=true:=by
 unfold xN at h;simp only[hi,Bool.and_eq_true] at h;obtain⟨h1,h2⟩:=h;refine⟨fun j oj hj hd hji=>?_,fun j hd=>?_,fun j oj hj hji hun hno=>?_⟩
 ·have:=List.all_eq_true.1 h1 j hd;simp only[hj,Bool.and_eq_true,Bool.or_eq_true,beq_iff_eq] at this;rcases this.2 with h3 | h3
  ·exact absurd h3 hji
  ·obtain⟨e,he,hb⟩:=Array.any_eq_true'.1 h3;simp only[Bool.and_eq_true,List.contains_iff_mem] at hb;exact⟨e,he,hb.1,hb.2⟩
 ·have:=List.all_eq_true.1 h1 j hd;simp only[Bool.and_eq_true,Bool.not_eq_true'] at this;exact this.1
 ·have hlt:j<ops.size:=(Array.getElem?_eq_some_iff.1 hj).1;have:=List.all_eq_true.1 h2 j (List.mem_range.2 hlt);simp only[hj,hun,Bool.or_false,Bool.or_eq_true,beq_iff_eq,Bool.and_eq_true,List.contains_iff_mem] at this;rcases this with (h1 | h1) | h1
  ·exact absurd h1 hji
  ·exact absurd h1 hno
  ·exact h1
theorem kD.lex {R:AS->Prop}:∀ (l:List Oper) (k:Nat) (listed:Array Bool) (s:AS),Bd n0 s->(∀ j:Nat,l[j]?=ops[k+j]?)->C9 ops l.length k listed=true->D5 Ty ops n0 R l s->kD Ty ops n0 R l.length listed s
 | [],_,_,_,_,_,hB,h=>⟨by simpa[C9] using hB,h⟩
 | o::l,k,listed,s,hb,hl,hB,h=>by
  have h0:ops[k]?=some o:=by simpa using (hl 0).symm
  simp only[List.length_cons,C9,Bool.and_eq_true] at hB;obtain⟨⟨hr,hf⟩,hB'⟩:=hB;obtain⟨f1,f2,f3⟩:=xA h0 hf;exact kD.first h0 (behind ops k) f1 l.length listed s hb f2 f3 (by simpa using hr)
   ((qD.bd hb h).mono fun s' ⟨hb',h'⟩=>kD.lex l (k+1) _ s' hb' (fun j=>by have:=hl (j+1);simpa[Nat.add_assoc,Nat.add_comm 1 j] using this) hB' h')
end
section
variable {P:Program} {N:Nat} {Ty:Types} {ops:Array Oper} {n0:Nat}
theorem kD.sound (hT:aU P Ty) {R:AS->Prop} (hN:ops.toList.all (fun o=>dA N o.dst)=true) {Q:Exit->Act->World->Prop} {c0:Ctx} (hQ:∀ a c O,bn c0 c->Good c->cN N c O a->R (O,c.H,c.n)->Q .normal a c.w) :
  ∀ (fuel:Nat) (listed:Array Bool) (O:Env) (c:Ctx) (a:Act),n0<=c.n->bn c0 c->Good c->cN N c O a->kD Ty ops n0 R fuel listed (O,c.H,c.n)->wpAny P .any ops Q fuel listed a c.w
 | 0,_,_,_,_,_,hk,g,r,h=>⟨h.1,hQ _ _ _ hk g r h.2⟩
 | fuel+1,listed,O,c,a,hn0,hk,g,r,h=>by
  refine⟨fun h0=>hQ _ _ _ hk g r (h.1 h0),fun i hi=>?_⟩;obtain⟨o,ho,hst⟩:=h.2 i hi;have hd:dA N o.dst=true:=List.all_eq_true.1 hN o (by rw[<- Array.getElem?_toList] at ho;exact List.mem_of_getElem? ho);unfold wpOp;simp only[ho];rcases hst with ⟨hg,hrest⟩ | ⟨hg,hk3,hc,v,H',hs,hrest⟩ | ⟨hg,t,k,i',hop,hdst,hTy,hrest⟩
  ·rw[if_neg (by rw[b8 r hN hg];simp)];exact kD.sound hT hN hQ fuel _ _ c _ hn0 hk g (r.put hd (.v _)) hrest
  ·rw[if_pos (b8 r hN hg)];simp only at hs hrest;refine .inl (aA hT hs c a rfl rfl g r _ _ ?_);rintro v1 x c' ⟨rfl,hH,hn⟩ hrep hgood hkeep;exact kD.sound hT hN hQ fuel _ _ c' _ (by rw[hn];exact hn0) (hk.trans hkeep) hgood ((r.keeps hkeep).put hd hrep) (by rw[hH,hn];exact hrest)
  ·rw[if_pos (b8 r hN hg)];have hs:aX Ty o.dst o.op O c.H c.n=some (.ptr (c.n,k) 1 0 0,c.H.set (c.n,k) ⟨i'.zero.length,[i'.zero.map .v]⟩,c.n+1):=by rw[hop,hdst];simp only[aX,hTy]
   refine .inl (aA hT hs c a rfl rfl g r _ _ ?_);rintro v1 x c' ⟨rfl,hH,hn⟩ hrep hgood hkeep;have hr:=hrest c.n hn0 (fun j=>by
    show c.H (c.n,j)=none;cases hx:c.H (c.n,j) with
    | none=>rfl
    | some ob=>have:=g.stamp _ _ hx;simp only at this;omega)
   have hm:max c.n (c.n+1)=c.n+1:=by omega
   simp only[hm] at hr;rw[<- hdst] at hr;exact kD.sound hT hN hQ fuel _ _ c' _ (by rw[hn];omega) (hk.trans hkeep) hgood ((r.keeps hkeep).put hd hrep) (by rw[hH,hn];exact hr)
end
section
variable {P:Program} {f:FuncId} {N:Nat} {k:List Item} {O:Env} {H:Heap} {n:Nat} {Q:I->Heap->Nat->Prop} {Ty:Types}
theorem J.uW (hT:aU P Ty) {id:Nat} {ops:List Oper} (hm:P.follows .mixedOrders=true) (hN:ops.all (fun o=>dA N o.dst)=true) (hB:uW ops.toArray=true)
  (h:D5 Ty ops.toArray n (fun s=>J P f N k s.1 s.2.1 s.2.2 Q) ops (O,H,n)):J P f N (.code (.region id ops.toArray true)::k) O H n Q:=by
 intro c a hH hn g r b cs hf hk;subst hH;subst hn;obtain⟨d1,d2⟩:=gB g;have hany:=kD.lex (Ty:=Ty) (ops:=ops.toArray) (n0:=c.n) ops 0 (Array.replicate ops.toArray.size false) (O,c.H,c.n) ⟨Nat.le_refl _,fun id o ho=>g.stamp id o ho⟩ (by simp) (by simpa[Ab.uW] using hB) h;have hw:(Code.region id ops.toArray true).wp P (fun e a' w'=>e = .normal/\∃ c' ρ',c'.w=w'/\bn c c'/\Good c'/\cN N c' ρ' a'/\J P f N k ρ' c'.H c'.n Q) a c.w:=by
  refine wp_region_any hm ?_;have:=kD.sound (P:=P) (N:=N) (Ty:=Ty) (ops:=ops.toArray) (n0:=c.n) (c0:=c) hT (by simpa using hN) (Q:=fun e a' w'=>e = .normal/\∃ c' ρ',c'.w=w'/\bn c c'/\Good c'/\cN N c' ρ' a'/\J P f N k ρ' c'.H c'.n Q)
   (R:=fun s=>J P f N k s.1 s.2.1 s.2.2 Q) (fun a' c' ρ' V hg' hr' hR=>⟨rfl,c',ρ',rfl,V,hg',hr',hR⟩) ops.length (Array.replicate ops.toArray.size false) O { c with w:={ c.w with drawn:=c.w.drawn+1 } } a (Nat.le_refl _) d1 d2 (r.keeps d1) hany
  simpa using this
 obtain⟨e,a',w',⟨rfl,c',ρ',rfl,V,hg',hr',hR⟩,harr⟩:=hw b k cs;obtain⟨x,v,c'',fr,q,hr,hg,hke,hst,rest⟩:=hR c' a' rfl rfl hg' hr' b cs hf hk;exact⟨x,v,c'',fr,q,hr,hg,V.trans hke,Steps.trans harr hst,rest⟩
end
def zi (Ty:Types) (d:Option Nat):Op->Option (Nat × Ob)
 | .alloc t=>match d,Ty t with
  | some k,some i=>some (k,⟨i.zero.length,[i.zero.map .v]⟩)
  | _,_=>none
 | _=>none
section
variable (P:Program) (f:FuncId) (N:Nat) (k:List Item) (Q:I->Heap->Nat->Prop) (Ty:Types) (ops:Array Oper) (n0:Nat)
def gZ:List Oper->Env->Heap->Nat->Prop
 | [],O,H,n=>J P f N k O H n Q
 | o::l,O,H,n=>
  match eK ops o O with
  | some false=>gZ l (O.put o.dst k6) H n
  | some true=>match zi Ty o.dst o.op with
   | some (j,ob)=>∀ a,n0<=a->(∀ q,H (a,q)=none)->gZ l (O.put (some j) (.ptr (a,j) 1 0 0)) (H.set (a,j) ob) (max n (a+1))
   | none=>match aX Ty o.dst o.op O H n with
    | some (v,H',_)=>dK n0 o.op O/\gZ l (O.put o.dst v) H' n
    | none=>False
  | none=>False
end
section
variable {P:Program} {f:FuncId} {N:Nat} {k:List Item} {O:Env} {H:Heap} {n:Nat} {Q:I->Heap->Nat->Prop} {Ty:Types} {ops:Array Oper} {n0:Nat}
theorem yK {d:Option Nat} {op:Op} {v:I} {H':Heap} {n':Nat} (h:zi Ty d op=none) (hs:aX Ty d op O H n=some (v,H',n')):cr op ≠ 3:=by
 cases op with
 | alloc t=>
  simp only[aX] at hs
  split at hs
  ·rename_i k' i hi
   simp only[zi,hi] at h;cases h
  ·cases hs
 | call c=>
  obtain⟨cal,args,ats⟩:=c;cases cal with
  | builtin b=>cases b<;>simp[cr]
  | _=>simp[cr]
 | buildSlice t len ps=>
  unfold cr;simp only
  by_cases h0:len=0<;>simp[h0]
 | _=>simp[cr]
theorem gN:∀ (l:List Oper) (O:Env) (H:Heap) (n:Nat),gZ P f N k Q Ty ops n0 l O H n->D5 Ty ops n0 (fun s=>J P f N k s.1 s.2.1 s.2.2 Q) l (O,H,n)
 | [],_,_,_,h=>h
 | o::l,O,H,n,h=>by
  rw[gZ] at h
  split at h
  ·rename_i hg
   exact .inl ⟨hg,gN l _ _ _ h⟩
  ·rename_i hg
   split at h
   ·rename_i j ob hnew
    unfold zi at hnew
    split at hnew
    ·rename_i t hop
     split at hnew
     ·rename_i k' i hdst hTy
      cases hnew;exact .inr (.inr ⟨hg,t,_,_,hop,hdst,hTy,fun a ha hf=>gN l _ _ _ (h a ha hf)⟩)
     ·cases hnew
    ·cases hnew
   ·rename_i hnew
    split at h
    ·rename_i v H' n' hs
     have hk3:=yK hnew hs;obtain⟨hc,h⟩:=h;have hn:n'=n:=by
      rcases eQ hk3 hc with hk | hk | hk
      ·exact (gF hk hs).2.1
      ·exact (ei (H2:=H) (n2:=n) hk hc (fun _ _=>rfl) hs).2.1
      ·obtain⟨_,_,_,_,_,_,_,e,_⟩:=gA hk hc hs;exact e
     subst hn;exact .inr (.inl ⟨hg,hk3,hc,v,H',hs,gN l _ _ _ h⟩)
    ·exact h.elim
  ·exact h.elim
@[simp] theorem evalN_nil : gZ P f N k Q Ty ops n0 [] O H n = J P f N k O H n Q := by rw [gZ]
@[simp] theorem evalN_cons {o : Oper} {l : List Oper} : gZ P f N k Q Ty ops n0 (o :: l) O H n = (match eK ops o O with
  | some false=>gZ P f N k Q Ty ops n0 l (O.put o.dst k6) H n
  | some true=>match zi Ty o.dst o.op with
   | some (j,ob)=>∀ a,n0<=a->(∀ q,H (a,q)=none)->gZ P f N k Q Ty ops n0 l (O.put (some j) (.ptr (a,j) 1 0 0)) (H.set (a,j) ob) (max n (a+1))
   | none=>match aX Ty o.dst o.op O H n with
    | some (v,H',_)=>dK n0 o.op O/\gZ P f N k Q Ty ops n0 l (O.put o.dst v) H' n
    | none=>False
  | none=>False):=by rw[gZ]
theorem J.seqN (hT:aU P Ty) {id:Nat} {ops:List Oper} {y:Code} (hm:P.follows .mixedOrders=true) (hN:ops.all (fun o=>dA N o.dst)=true) (hB:Ab.uW ops.toArray=true)
  (h:∀ k':List Item,(∀ O H n,J P f N (.code y::k) O H n Q->J P f N k' O H n Q)->gZ P f N k' Q Ty ops.toArray n ops O H n):J P f N (.code (.seq (.region id ops.toArray true) y)::k) O H n Q:=
 J.seq (J.uW hT hm hN hB (gN ops _ _ _ (h (.code y::k) fun _ _ _ h=>h)))
end
attribute [simp] eK dK Au zi cr
end Go.Ab
