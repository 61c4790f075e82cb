/- Merged texts (9 of 17) of the proof that ends in Mpy: Rp Rb Md St Mu Yb Co Mp Em Se Sd Sg Na Nc. -/
import Derived.Test.YtbikfokhjdjfpaaGreatDoorAbQmp8
/- Readers of the laws' arguments: processes. -/
namespace Go.Proofs.YtbikfokhjdjfpaaGreatDoor
open Go.ChangeShapes Go.WideShapes Go.ChangeAt Go.RowKit Go.Ab
set_option maxRecDepth 100000
theorem own:ownKnob Tryz.prog.godebug=none:=by kernel_rfl
theorem laidOut:laidOutB Tryz.prog=true:=by kernel_rfl
theorem Dg:Tryz.prog.underlying 4=some .bool:=Tryz.underlying4
end Go.Proofs.YtbikfokhjdjfpaaGreatDoor
/- Readers of the laws' arguments: signatures and bigraphs. -/
namespace Go.Proofs.YtbikfokhjdjfpaaGreatDoor
open Go.ChangeShapes Go.WideShapes Go.ChangeAt Go.RowKit Go.Ab
set_option maxRecDepth 100000
theorem EW:Reader Tryz.prog 63 Control.cells (fun x=>x.name.length≤9223372036854775807):=by
  have h:=Reader.struct Tryz.underlying63 (n:=3) (by kernel_rfl) (bP.cons (n:=1) rfl (by kernel_rfl) (Reader.str Tryz.underlying9) (bP.cons (n:=1) rfl (by kernel_rfl) (Reader.int Tryz.underlying3) (bP.cons (n:=1) rfl (by kernel_rfl) (Reader.int Tryz.underlying3) (bP.nil 3))))
  exact h.map (fun p=>⟨p.1,p.2.1,p.2.2.1⟩) (fun p=>rfl) (fun p hp=>hp.1)
theorem Hn:Reader Tryz.prog 115 aA.cells (fun x=>x.name.length≤9223372036854775807):=by
  have h:=Reader.struct Tryz.underlying115 (n:=2) (by kernel_rfl) (bP.cons (n:=1) rfl (by kernel_rfl) (Reader.str Tryz.underlying9) (bP.cons (n:=1) rfl (by kernel_rfl) (Reader.int Tryz.underlying3) (bP.nil 2)))
  exact h.map (fun p=>⟨p.1,p.2.1⟩) (fun p=>rfl) (fun p hp=>hp.1)
theorem AJ:Reader Tryz.prog 24 (fun l:List Int=>[Ab.encI false l]) (fun l=>l.length≤9223372036854775807∧∀ p ∈ l,I64 p):=
  Reader.slice Tryz.underlying24 (of_decide_eq_true (by kernel_rfl)) (Reader.int Tryz.underlying3)
theorem G7:Reader Tryz.prog 25 (fun l:List Str=>[Ab.encS false l]) (fun l=>l.length≤9223372036854775807∧∀ s ∈ l,s.length≤9223372036854775807):=
  Reader.slice Tryz.underlying25 (of_decide_eq_true (by kernel_rfl)) (Reader.str Tryz.underlying9)
theorem F9:Reader Tryz.prog 113 (aj.cells false) (fun x=>x.links.length≤9223372036854775807∧I64 x.parent):=by
  have h:=Reader.struct Tryz.underlying113 (n:=3) (by kernel_rfl) (bP.cons (n:=1) rfl (by kernel_rfl) (Reader.int Tryz.underlying3) (bP.cons (n:=1) rfl (by kernel_rfl) (Reader.int Tryz.underlying3) (bP.cons (n:=1) rfl (by kernel_rfl) AJ (bP.nil 3))))
  exact h.map (fun p=>⟨p.1,p.2.1,p.2.2.1⟩) (fun p=>rfl) (fun p hp=>⟨hp.2.2.1.1,hp.2.1⟩)
theorem FT:Reader Tryz.prog 23 (fun l:List aj=>[Ab.bW false l]) (fun l=>l.length≤9223372036854775807∧∀ x ∈ l,x.links.length≤9223372036854775807∧I64 x.parent):=
  Reader.slice Tryz.underlying23 (of_decide_eq_true (by kernel_rfl)) F9
theorem Ge:Reader Tryz.prog 26 (fun l:List aA=>[Ab.cb false l]) (fun l=>l.length≤9223372036854775807∧∀ x ∈ l,x.name.length≤9223372036854775807):=
  Reader.slice Tryz.underlying26 (of_decide_eq_true (by kernel_rfl)) Hn
theorem I2:sC Tryz.prog 22 (bl false) AW:=by
  refine sC.cell (Ar Tryz.underlying22) ?_
  have h:=Reader.slice Tryz.underlying22 (of_decide_eq_true (by kernel_rfl)) EW
  exact h.map (fun p=>p) (fun p=>rfl) (fun p hp=>⟨hp.1,hp.2⟩)
theorem GJ:Reader Tryz.prog 28 (Big.cells false) jP:=by
  have h:=Reader.struct Tryz.underlying28 (n:=6) (by kernel_rfl) (bP.cons (n:=1) rfl (by kernel_rfl) (Reader.int Tryz.underlying3) (bP.cons (n:=1) rfl (by kernel_rfl) FT (bP.cons (n:=1) rfl (by kernel_rfl) AJ
    (bP.cons (n:=1) rfl (by kernel_rfl) (Reader.int Tryz.underlying3) (bP.cons (n:=1) rfl (by kernel_rfl) G7 (bP.cons (n:=1) rfl (by kernel_rfl) Ge (bP.nil 6)))))))
  exact h.map (e':=Big.cells false) (ok':=jP) (fun p=>⟨p.1,p.2.1,p.2.2.1,p.2.2.2.1,p.2.2.2.2.1,p.2.2.2.2.2.1⟩) (fun p=>rfl) (fun p hp=>by
    obtain⟨_,h1,h2,_,h3,h4,_⟩:=hp
    exact⟨h1.1,fun x hx=>(h1.2 x hx).1,h2.1,h3.1,h3.2,h4.1,h4.2,fun x hx=>(h1.2 x hx).2,h2.2⟩)
theorem Hv:sC Tryz.prog 28 (cv false) jP:=sC.struct Tryz.underlying28 GJ
end Go.Proofs.YtbikfokhjdjfpaaGreatDoor
/- IsMatch, IsActiveMatch, MatchLinks (statements 12, 14, 16): the laws' own functions on matches, and the laws. -/
namespace Go.Ab.Vg
set_option linter.unusedSimpArgs false
set_option linter.unusedVariables false
abbrev um (m:Match):Prop:=m.nodes.length≤9223372036854775807∧m.roots.length≤9223372036854775807
abbrev jx (m:Match):Match:=m
abbrev eT (m:Match):Prop:=MSz m
def kz (a:Match) (Z:Match→Prop):Prop:=
  (eM a.nodes)∧∀ r8:List Int,r8=o9 a.nodes→(eM a.roots)∧∀ r20:List Int,r20=o9 a.roots→Z (Match.mk r8 r20)
theorem zp (m:Match) (h:eT m):kz m (fun y=>y=jx m):=by
  unfold kz
  simp only[forall_eq]
  exact⟨h.1,h.2,trivial⟩
def szM (m:Match) (left:Int):Int:=if szI m.nodes left<0 then -1 else szI m.roots (szI m.nodes left)
abbrev wh (m:Match) (left:Int):Prop:=(0≤left∧left≤1048576)∧um m
def vR (a:Match) (left:Int) (Z:Int→Prop):Prop:=
  (((0:Int)≤left∧(left:Int)≤1048576)∧a.nodes.length≤9223372036854775807)∧∀ r5:Int,r5=szI a.nodes left→∀ c6:Bool,c6=decide (r5<0)→((c6=true→Z (-1))∧(c6=false→(((0:Int)≤r5∧(r5:Int)≤1048576)∧a.roots.length≤9223372036854775807)∧∀ r9:Int,r9=szI a.roots r5→∀ c10:Bool,c10=decide (r9<0)→((c10=true→Z (-1))∧(c10=false→Z r9))))
theorem Gc (m:Match) (left:Int) (h:wh m left):vR m left (fun y=>y=szM m left):=by
  unfold vR
  obtain⟨⟨h0,h1⟩,h2,h3⟩:=h
  have h4:=sX szI m.nodes left h0
  simp only[forall_eq,decide_eq_true_eq,decide_eq_false_iff_not]
  refine⟨⟨⟨h0,h1⟩,h2⟩,fun h5=>by rw[szM,if_pos h5],fun h5=>⟨⟨⟨by omega,by omega⟩,h3⟩,fun h6=>?_,fun h6=>by rw[szM,if_neg h5]⟩⟩
  rw[szM,if_neg h5]
  have:szI m.roots (szI m.nodes left)<0:=h6
  simp only[szI] at this ⊢
  split at this<;>omega
abbrev eqM (a b:Match):Bool:=decide (a=b)
abbrev vA (a _:Match):Prop:=MSz a
def vn (a:Match) (b:Match) (Z:Bool→Prop):Prop:=
  (a.nodes.length≤1048576)∧∀ r6:Bool,r6=decide (a.nodes=b.nodes)→((r6=true→(a.roots.length≤1048576)∧∀ r8:Bool,r8=decide (a.roots=b.roots)→((r8=true→Z true)∧(r8=false→Z false)))∧(r6=false→Z false))
theorem Gr (a b:Match) (h:vA a b):vn a b (fun y=>y=eqM a b):=by
  unfold vn
  simp only[forall_eq,decide_eq_true_eq,decide_eq_false_iff_not]
  obtain⟨x,y⟩:=a
  obtain⟨z,w⟩:=b
  refine⟨h.1,fun h1=>⟨h.2,fun h2=>?_,fun h2=>?_⟩,fun h1=>?_⟩
  · simp only at h1 h2;subst h1 h2;simp
  · simp only at h1 h2;simp[eqM,h2]
  · simp only at h1;simp[eqM,h1]
abbrev EqB (x:Big):Prop:=x.nodes.length≤1048576∧(∀ z ∈ x.nodes,z.links.length≤1048576)∧x.sites.length≤1048576∧x.outer.length≤1048576∧x.inner.length≤1048576
structure GW (sig:Sig) (r a:Big) (m:Match):Prop where
  hS:sig.length≤1048576
  r:bZ sig r
  a:bZ sig a
  m:MSz m
theorem Fi {sig:Sig} {b:Big} (h:bZ sig b):EqB b:=⟨h.nodesLen,h.linksLen,h.sitesLen,h.outerLen,h.innerLen⟩
theorem yl {sig:Sig} {b:Big} (h:bZ sig b):b4 b:=⟨⟨h.nodesLen,h.linksLen⟩,h.sitesLen,h.outerLen,h.innerLen⟩
theorem Gf {sig s2:Sig} {b b2:Big} (h:bZ sig b2) (h2:bZ s2 b):bZ sig b:=
  ⟨h.sigLen,h.sigNames,h2.nodesLen,h2.sitesLen,h2.outerLen,h2.innerLen,h2.outerNames,h2.innerNames,h2.linksLen,h2.parents,h2.sites64⟩
theorem vf (b:Big) (left:Int) (h:0≤left):szB b left≤left:=by
  unfold szB
  have h1:=jy szN b.nodes left h
  split
  · omega
  have h2:=sX szI b.sites (szS szN b.nodes left) (by omega)
  split
  · omega
  have h3:=jy de b.outer (szI b.sites (szS szN b.nodes left)) (by omega)
  split
  · omega
  have h4:=jy szW b.inner (szS de b.outer (szI b.sites (szS szN b.nodes left))) (by omega)
  split<;>omega
theorem He {sig:Sig} {r a:Big} {m:Match} (h1:¬ szS szC sig 1048576<0) (h2:¬ szB r (szS szC sig 1048576)<0) (h3:¬ szB a (szB r (szS szC sig 1048576))<0) (h4:¬ szM m (szB a (szB r (szS szC sig 1048576)))<0)
    (hr:jP r) (ha:jP a):GW sig r a m:=by
  have l1:=jy szC sig 1048576 (by omega)
  have l2:=vf r (szS szC sig 1048576) (by omega)
  have l3:=vf a (szB r (szS szC sig 1048576)) (by omega)
  have hR:bZ sig r:=Di (left:=1048576) (by omega) (by omega) (by omega) (by omega) hr
  have e0:szS szC [] (szB r (szS szC sig 1048576))=szB r (szS szC sig 1048576):=by
    have:szS szC [] (szB r (szS szC sig 1048576))=(if szB r (szS szC sig 1048576) - (([]:Sig).length:Int)<0 then -1 else szB r (szS szC sig 1048576) - (([]:Sig).length:Int)):=by
      unfold szS;split<;>rfl
    rw[this];simp only[List.length_nil];split<;>omega
  have hA:bZ [] a:=Di (left:=szB r (szS szC sig 1048576)) (by omega) (by omega) (by rw[e0];omega) (by rw[e0];omega) ha
  refine⟨hR.sigLen,hR,Gf hR hA,?_⟩
  unfold szM at h4
  split at h4
  · omega
  have:=qJ (s:=m.nodes) (c:=szB a (szB r (szS szC sig 1048576))) (by omega)
  have l4:=sX szI m.nodes (szB a (szB r (szS szC sig 1048576))) (by omega)
  have:=qJ (s:=m.roots) (c:=szI m.nodes (szB a (szB r (szS szC sig 1048576)))) (by omega)
  exact⟨by omega,by omega⟩
def ib (m:Match) (k:Int):Match × Int:=(⟨(aX m.nodes k).1,(aX m.roots (aX m.nodes k).2).1⟩,(aX m.roots (aX m.nodes k).2).2)
abbrev jL (m:Match) (k:Int):Prop:=MSz m∧0≤k∧k≤1125899906842624
def gL (a:Match) (k_:Int) (Z:(Match × Int)→Prop):Prop:=
  (eh a.nodes k_)∧∀ r9:(List Int) × Int,r9=aX a.nodes k_→(eh a.roots r9.2)∧∀ r18:(List Int) × Int,r18=aX a.roots r9.2→Z ((Match.mk r9.1 r18.1),r18.2)
theorem vq (m:Match) (k:Int) (h:jL m k):gL m k (fun y=>y=ib m k):=by
  unfold gL
  obtain⟨⟨h1,h2⟩,h3,h4⟩:=h
  simp only[forall_eq]
  refine⟨⟨by omega,by omega,by omega⟩,⟨by simp only[aX,dH];omega,by omega,by simp only[aX,dH];omega⟩,rfl⟩
theorem Bc:∀ {l:List aj},(∀ x ∈ l,x.links.length≤1048576)→(l.map bh).sum≤1048578 * l.length
  | [],_=>by simp
  | x::l,h=>by
    have h1:=Bc (l:=l) fun y hy=>h y (by simp[hy])
    have h2:=h x (by simp)
    simp only[List.map_cons,List.sum_cons,List.length_cons,bh] at h1 ⊢
    omega
theorem AP {b:Big} (h:EqB b) (k:Int) (h0:0≤k) (hk:k≤1125899906842624):dZ b k∧(k≤(bt b k).2∧(bt b k).2≤k+2199027449856):=by
  obtain⟨h1,h2,h3,h4,h5⟩:=h
  have hs:=Bc h2
  have hb:kI b=(b.nodes.map bh).sum+b.sites.length+b.outer.length+2 * b.inner.length:=rfl
  refine⟨⟨h0,h1,h2,h3,h4,h5,by omega⟩,?_⟩
  have p1:=lQ b.nodes k
  simp only[bt,aX,bN,dh,dH,p1]
  omega
end Go.Ab.Vg
/- The abstract machine, part St: rules, guards, systems. -/
namespace Go.Ab
structure Guard where
  zone:Int
  neg:Bool
  pattern:Big
  deriving Inhabited,DecidableEq
section
variable {H:ak} {n:Nat}
end
end Go.Ab
/- Rules and guards: what makes them valid, and when a guard holds. -/
namespace Go.Ab.Vg
set_option linter.unusedSimpArgs false
set_option linter.unusedVariables false
def ll (zone:Int) (agent:Big) (m:Match) (x:Int):Bool:=if zone=2 then !(cC agent m.nodes x) else if zone=3 then cC agent m.nodes x && !(k7 m.nodes x) else true
def sA (zone:Int) (agent:Big) (m:Match) (k:Nat):List Int:=((List.range k).map fun i:Nat=>(i:Int)).filter (ll zone agent m)
theorem ue (zone:Int) (agent:Big) (m:Match) (k:Nat):sA zone agent m (k+1)=if ll zone agent m k then sA zone agent m k++[(k:Int)] else sA zone agent m k:=by
  rw[sA,List.range_succ,List.map_append,List.filter_append]
  by_cases h:ll zone agent m k=true<;>simp[h,sA]
theorem q0 (zone:Int) (agent:Big) (m:Match) (k:Nat):(sA zone agent m k).length≤k:=by
  have:=List.length_filter_le (ll zone agent m) ((List.range k).map fun i:Nat=>(i:Int))
  simpa[sA] using this
theorem rO {zone:Int} {agent:Big} {m:Match} {k:Nat} {x:Int}:x ∈ sA zone agent m k↔(0≤x∧x<k)∧ll zone agent m x=true:=by
  simp only[sA,List.mem_filter,List.mem_map,List.mem_range]
  constructor
  · rintro⟨⟨i,hi,rfl⟩,h⟩
    exact⟨⟨by omega,by omega⟩,h⟩
  · rintro⟨⟨h1,h2⟩,h⟩
    exact⟨⟨x.toNat,by omega,by omega⟩,h⟩
abbrev bI (agent:Big) (m:Match):List Int:=sA 3 agent m agent.nodes.length
abbrev eJ (agent:Big) (m:Match):Prop:=oX agent∧m.nodes.length≤1048576
def fw (agent:Big) (m:Match) (Z:(List Int)→Prop):Prop:=
  ∀ len8:Int,len8=(agent.nodes.length:Int)→aw (σ:=Int × (List Int)) (fun (v17,l18) K22=>∀ c23:Bool,c23=decide (v17<len8)→((c23=true→cW (fun (J25:Bool→Prop)=>(iZ agent v17 m.nodes)∧∀ r49:Bool,r49=m6 agent v17 m.nodes→((r49=true→(m.nodes.length≤1048576)∧∀ r51:Bool,r51=k7 m.nodes v17→J25 ((!r51)))∧(r49=false→J25 (false)))) (fun b28=>((b28=true→(l18.length+1≤1073741824)∧∀ l33:List Int,l33=l18++[v17]→(I64 (v17+1))∧∀ v43:Int,v43=v17+1→K22 (v43,l33))∧(b28=false→(I64 (v17+1))∧∀ v46:Int,v46=v17+1→K22 (v46,l18)))))∧(c23=false→Z l18))) (0,([]:List Int))
theorem rM (agent:Big) (m:Match) (h:eJ agent m):fw agent m (fun y=>y=bI agent m):=by
  unfold fw
  obtain⟨h1,h2⟩:=h
  have h8:=h1.1
  simp only[forall_eq,decide_eq_true_eq,decide_eq_false_iff_not]
  refine aw.upL agent.nodes.length (fun k t=>t=sA 3 agent m k) [] rfl ?_
  rintro k _ K hk rfl IH
  dsimp only
  have hl:=q0 3 agent m k
  refine⟨fun h3=>⟨fun b=>b=ll 3 agent m k,⟨⟨h1,by omega,h2⟩,fun h4=>⟨h2,?_⟩,fun h4=>?_⟩,?_⟩,fun h3=>?_⟩
  · simp only[ll];rw[show cC agent m.nodes (k:Int)=true from h4];simp
  · simp only[ll];rw[show cC agent m.nodes (k:Int)=false from h4];simp
  · rintro _ rfl
    refine⟨fun h4=>⟨by omega,by simp only[I64];omega,IH (by omega) _ ?_⟩,fun h4=>⟨by simp only[I64];omega,IH (by omega) _ ?_⟩⟩
    · rw[ue,if_pos h4]
    · rw[ue,if_neg (by rw[h4];simp)]
  · rw[bI,show agent.nodes.length=k by omega]
-- impl.FZ$1 is not in this seat
abbrev FZ (a b:List Int):Bool:=a.all (fun n=>k7 b n)
noncomputable def Gq (g:Guard) (agent:Big) (m:Match):Bool:=((Dh g.pattern agent).any fun o=>o.nodes.all (ll g.zone agent m)) != g.neg
noncomputable abbrev holds (g:Guard) (agent:Big) (m:Match):Bool:=Gq g agent m
end Go.Ab.Vg
/- Contracts of laws.toAmbNode, laws.toProcess, laws.eqAmbNode and laws.eqProcess. -/
namespace Go.Ab
open Go.Proofs
set_option linter.unusedSimpArgs false
end Go.Ab
/- Congruence of processes (statement 9): pure conditions of the functions that sort texts. -/
namespace Go.Ab.Vg
set_option linter.unusedSimpArgs false
set_option linter.unusedVariables false
abbrev oL (l:List Str):List Str × Unit:=(l.mergeSort fun x y=>decide (x≤y),())
theorem Bk (a b:Str):a≤b∨b≤a:=List.le_total a b
end Go.Ab.Vg
/- Marks on processes: what the laws' own functions on processes do. -/
namespace Go.Ab.Vg
set_option linter.unusedSimpArgs false
set_option linter.unusedVariables false
end Go.Ab.Vg
/- Encodings of processes (statement 11). -/
namespace Go.Ab.Vg
set_option linter.unusedSimpArgs false
set_option linter.unusedVariables false
theorem C8 {a b:Str} (h:a≤b) (hn:a ≠ b):a<b:=by
  by_cases hl:a<b
  · exact hl
  · exact absurd (List.le_antisymm h hl) hn
theorem zk {a b:Str} (h:a<b):a ≠ b:=by rintro rfl;exact List.lt_irrefl a h
theorem wi {a b c:Str} (h:a<b) (h':b<c):a<c:=List.lt_trans h h'
theorem BR {l m:List Str} (hl:l.Pairwise (·<·)) (hm:m.Pairwise (·<·)) (h:∀ x,x ∈ l↔x ∈ m):l=m:=by
  have n1:l.Nodup:=hl.imp fun h=>zk h
  have n2:m.Nodup:=hm.imp fun h=>zk h
  exact ((List.perm_ext_iff_of_nodup n1 n2).2 h).eq_of_pairwise (fun a b _ _ h h'=>absurd (wi h h') (List.lt_irrefl a)) hl hm
theorem jQ {d:List Str} {j:Nat} (h:j<d.length):d.toArray[j]! = d[j]:=by simp[h]
theorem iH {d:List Str} (hd:d.Pairwise (·≤·)):∀ m,m≤d.length→(Go.Lib.compactUpTo d.toArray m).Pairwise (·<·)∧∀ x,x ∈ Go.Lib.compactUpTo d.toArray m↔x ∈ d.take m
  | 0,_=>by simp[Go.Lib.compactUpTo]
  | m+1,hm=>by
    obtain⟨h1,h2⟩:=iH hd m (by omega)
    have hm1:m<d.length:=by omega
    have htk:d.take (m+1)=d.take m++[d[m]]:=List.take_succ_eq_append_getElem hm1
    rw[Go.Lib.compactUpTo_succ,htk]
    by_cases hk:Go.Lib.keeps d.toArray m=true
    · rw[if_pos hk]
      have hlt:∀ a ∈ d.take m,a<d[m]:=fun a ha=>by
        obtain⟨j,hj,rfl⟩:=List.getElem_of_mem ha
        have hjm:j<m:=by simp at hj;omega
        rw[List.getElem_take]
        simp only[Go.Lib.keeps,decide_eq_true_eq] at hk
        have hne:d[m] ≠ d[m - 1]:=by
          rcases hk with h | h
          · omega
          · rwa [jQ hm1,jQ (show m - 1<d.length by omega)] at h
        have hp:=List.pairwise_iff_getElem.1 hd
        have h3:d[m - 1]≤d[m]:=hp (m - 1) m (by omega) hm1 (by omega)
        have h4:d[m - 1]<d[m]:=C8 h3 (Ne.symm hne)
        rcases Nat.lt_or_ge j (m - 1) with h5 | h5
        · exact List.lt_of_le_of_lt (hp j (m - 1) (by omega) (by omega) h5) h4
        · have:j=m - 1:=by omega
          subst this;exact h4
      refine⟨List.pairwise_append.2 ⟨h1,by simp,fun a ha b hb=>?_⟩,fun x=>?_⟩
      · simp only[List.mem_singleton,jQ hm1] at hb
        subst hb
        exact hlt a ((h2 a).1 ha)
      · simp only[List.mem_append,h2,jQ hm1]
    · rw[if_neg hk,List.append_nil]
      refine⟨h1,fun x=>?_⟩
      rw[h2,List.mem_append]
      refine⟨.inl,fun h=>h.elim id fun h=>?_⟩
      simp only[Go.Lib.keeps,decide_eq_true_eq,not_or,Decidable.not_not] at hk
      obtain⟨k0,k1⟩:=hk
      rw[jQ hm1,jQ (show m - 1<d.length by omega)] at k1
      simp only[List.mem_singleton] at h
      subst h
      rw[k1]
      exact List.mem_iff_getElem.2 ⟨m - 1,by simp;omega,by simp⟩
abbrev kS (l:List Str):Prop:=l.length≤1048576
abbrev pg (l:List Str):List Str:=l
def my (s:List Str) (Z:(List Str)→Prop):Prop:=
  ∀ c2:Bool,(c2=true→s=[])→((c2=true→Z [])∧(c2=false→(([]:List Str).length+s.length≤1073741824)∧∀ l7:List Str,l7=([]:List Str)++s→Z l7))
theorem B6 (l:List Str) (h:kS l):my l (fun y=>y=pg l):=by
  unfold my
  intro c hc
  refine⟨fun h1=>(hc h1).symm,fun _=>⟨by simp;omega,?_⟩⟩
  rintro _ rfl
  simp
abbrev j8 (l:List Str):List Str:=Go.Lib.compact l
theorem sr (l:List Str):(j8 l).length≤l.length:=by
  have h:(j8 l).length≤(List.range l.length).length:=by
    simp only[j8,Go.Lib.compact,Go.Lib.compactUpTo,List.length_map]
    exact List.length_filter_le _ _
  simpa using h
abbrev gq (l:List Str):Prop:=l.length≤1048576
def bo (l:List Str):List Str:=j8 (oL l).1
def fj (l:List Str) (Z:(List Str)→Prop):Prop:=
  (kS l)∧∀ r3:List Str,r3=pg l→(r3.length≤1073741824)∧∀ r14:(List Str) × Unit,r14=oL r3→(r14.1.length≤1073741824)∧∀ r24:List Str,r24=j8 r14.1→Z r24
theorem q7 (l:List Str) (h:gq l):fj l (fun y=>y=bo l):=by
  unfold fj
  simp only[forall_eq,oL,List.length_mergeSort,pg]
  exact⟨h,by omega,by omega,rfl⟩
theorem jO (l:List Str):(bo l).Pairwise (·<·)∧∀ x,x ∈ bo l↔x ∈ l:=by
  have h3:(oL l).1.Pairwise (·≤·):=by
    have:=List.pairwise_mergeSort (le:=fun x y:Str=>decide (x≤y)) (fun a b c h1 h2=>by simp only[decide_eq_true_eq] at *;exact List.le_trans h1 h2) (fun a b=>by simpa using Bk a b) l
    simpa[oL] using this
  obtain⟨h1,h2⟩:=iH h3 (oL l).1.length (Nat.le_refl _)
  refine⟨h1,fun x=>(h2 x).trans ?_⟩
  rw[List.take_length]
  exact List.mem_mergeSort
theorem qq (l:List Str):(bo l).length≤l.length:=by
  have:=sr (oL l).1
  simpa[oL,bo] using this
abbrev ir (l:List Str) (_:Str):Prop:=l.length≤1048576
def dQ (l:List Str) (s:Str):Int:=if s ∈ l then (l.idxOf s:Int) else -1
theorem uq {l:List Str} {s:Str} (h:∀ j<l.length,at' l (j:Int) ≠ s):dQ l s = -1:=by
  rw[dQ,if_neg]
  intro hm
  obtain⟨j,hj,he⟩:=List.getElem_of_mem hm
  exact h j hj (by rw[bY hj];exact he)
theorem nF {l:List Str} {s:Str} {k:Nat} (hk:k<l.length) (h:∀ j<k,at' l (j:Int) ≠ s) (he:at' l (k:Int)=s):dQ l s=k:=by
  rw[bY hk] at he
  have hm:s ∈ l:=he ▸ List.getElem_mem hk
  rw[dQ,if_pos hm]
  have h1:l.idxOf s<l.length:=List.idxOf_lt_length_iff.2 hm
  have h2:l[l.idxOf s]=s:=List.getElem_idxOf h1
  have h3:¬ l.idxOf s<k:=fun hlt=>h _ hlt (by rw[bY h1];exact h2)
  have h4:¬ k<l.idxOf s:=fun hlt=>by
    have:=List.not_of_lt_findIdx (p:=(· == s)) (xs:=l) hlt
    simp[he] at this
  omega
def mS (s:List Str) (v_:Str) (Z:Int→Prop):Prop:=
  ∀ cf:Int,cf=(s.length:Int)→aw (σ:=Int) (fun v6 K9=>∀ c10:Bool,c10=decide (v6<cf)→((c10=true→(0≤v6∧v6<s.length)∧∀ x13:Str,x13=at' s v6→∀ c15:Bool,c15=decide (v_=x13)→((c15=true→Z v6)∧(c15=false→(I64 (v6+1))∧∀ v18:Int,v18=v6+1→K9 (v18))))∧(c10=false→Z (-1)))) (0)
theorem B4 (l:List Str) (s:Str) (h:ir l s):mS l s (fun y=>y=dQ l s):=by
  unfold mS
  rintro _ rfl
  refine aw.up1 l.length (fun k=>∀ j<k,at' l (j:Int) ≠ s) (by simp) ?_
  rintro k K hk hI IH
  simp only[forall_eq,decide_eq_true_eq,decide_eq_false_iff_not,I64]
  refine⟨fun h1=>⟨by omega,fun h2=>(nF (by omega) hI h2.symm).symm,fun h2=>⟨by omega,IH (by omega) fun j hj=>?_⟩⟩,fun h1=>?_⟩
  · rcases Nat.lt_or_ge j k with h3 | h3
    · exact hI j h3
    · rw[show j=k by omega];exact fun h=>h2 h.symm
  · rw[uq fun j hj=>hI j (by omega)]
abbrev oT (l:List Str) (_:Str):Prop:=l.length≤1048576
abbrev E0 (l:List Str) (s:Str):Int:=dQ l s
def qL (list:List Str) (name:Str) (Z:Int→Prop):Prop:=
  aw (σ:=Int) (fun i4 K7=>∀ len8:Int,len8=(list.length:Int)→∀ c10:Bool,c10=decide (i4<len8)→((c10=true→(0≤i4∧i4<list.length)∧∀ x13:Str,x13=at' list i4→∀ c15:Bool,c15=decide (x13=name)→((c15=true→Z i4)∧(c15=false→(I64 (i4+1))∧∀ v18:Int,v18=i4+1→K7 (v18))))∧(c10=false→Z (-1)))) (0)
theorem Fb (l:List Str) (s:Str) (h:oT l s):qL l s (fun y=>y=E0 l s):=by
  unfold qL
  refine aw.up1 l.length (fun k=>∀ j<k,at' l (j:Int) ≠ s) (by simp) ?_
  rintro k K hk hI IH
  simp only[forall_eq,decide_eq_true_eq,decide_eq_false_iff_not,I64]
  refine⟨fun h1=>⟨by omega,fun h2=>(nF (by omega) hI h2).symm,fun h2=>⟨by omega,IH (by omega) fun j hj=>?_⟩⟩,fun h1=>?_⟩
  · rcases Nat.lt_or_ge j k with h3 | h3
    · exact hI j h3
    · rw[show j=k by omega];exact h2
  · rw[E0,uq fun j hj=>hI j (by omega)]
end Go.Ab.Vg
/- The abstract machine, part Se: what is lent to a call by a pointer to a variable, or by a function value. -/
namespace Go.Ab
section
variable {H:ak} {n:Nat} {K K':List bT} {ids:List Id}
end
section
variable {P:Program} {f:FuncId} {N:Nat} {k:List Item} {Q:ag→ak→Nat→Prop} {Ty:Types} {l:List Oper} {ρ:Env} {H:ak} {n:Nat}
end
end Go.Ab
/- The abstract machine, part Sd: regions that draw their order, with a chain of operations that turn the heap; all other operations give the same whenever they come. -/
namespace Go.Ab
set_option linter.unusedSectionVars false
set_option linter.unusedVariables false
section
variable (P:Program) (N:Nat) (ops:Array Oper) (Stab:ak→Nat→Prop) (hard:List Nat)
def cU (j:Nat):Bool:=(List.range ops.size).all fun k=>hard.contains k || (behind ops k).contains j
def DZ (o:Oper) (s s':AS):Prop:=∃ v,s'=(s.1.put o.dst v,s.2)∧((gok ops o s.1=some true∧∀ H n,Stab H n→aN P N o (loc o.op s.1) H n (isV v H n))∨(gok ops o s.1=some false∧v=skv))
def jR (R:AS→Prop):Nat→Array Bool→AS→Prop
  | 0,listed,s=>Region.ready .any ops listed=[]∧R s
  | fuel+1,listed,s=>(Region.ready .any ops listed=[]→R s)∧∀ i ∈ Region.ready .any ops listed,∃ o,ops[i]?=some o ∧
      ((i ∉ hard∧Stab s.2.1 s.2.2∧∃ s',DZ P N ops Stab o s s'∧jR R fuel (listed.setIfInBounds i true) s') ∨
       (i ∈ hard∧gok ops o s.1=some true∧∃ post:ag→ak→Nat→Prop,aN P N o (loc o.op s.1) s.2.1 s.2.2 post∧∀ v H' n',post v H' n'→(cU ops hard i=false→Stab H' n')∧jR R fuel (listed.setIfInBounds i true) (s.1.put o.dst v,H',n')))
inductive jK where
  | fin
  | stop
  | free (i:Nat) (t:jK)
  | hard (i:Nat) (t a:jK)
def jK.alts:jK→List Nat
  | .hard i _ a=>i::a.alts
  | _=>[]
def jK.depth:jK→Nat
  | .free _ t=>t.depth+1
  | .hard _ t a=>max (t.depth+1) a.depth
  | _=>0
def uc (t:jK) (listed:Array Bool):Bool:=match t with
  | .hard _ _ _ => !(Region.ready .any ops listed).isEmpty && (Region.ready .any ops listed).all fun i=>t.alts.contains i
  | .stop=>false
  | _=>true
def tw:jK→Array Bool→Bool
  | .fin,listed=>(Region.ready .any ops listed).isEmpty
  | .stop,_=>true
  | .free i t,listed => !hard.contains i && (Region.ready .any ops listed).contains i && A6 (fun _=>0) ops listed i && uc ops t (listed.setIfInBounds i true) && tw t (listed.setIfInBounds i true)
  | .hard i t a,listed=>hard.contains i && uc ops t (listed.setIfInBounds i true) && tw t (listed.setIfInBounds i true) && tw a listed
def qf (R':AS→Prop) (i:Nat) (s:AS):Prop:=∃ o,ops[i]?=some o∧gok ops o s.1=some true∧∃ post:ag→ak→Nat→Prop,aN P N o (loc o.op s.1) s.2.1 s.2.2 post∧∀ v H' n',post v H' n'→(cU ops hard i=false→Stab H' n')∧R' (s.1.put o.dst v,H',n')
def RunT (R:AS→Prop):jK→AS→Prop
  | .fin,s=>R s
  | .stop,_=>True
  | .free i t,s=>∃ o,ops[i]?=some o∧Stab s.2.1 s.2.2∧∃ s',DZ P N ops Stab o s s'∧RunT R t s'
  | .hard i t a,s=>qf P N ops Stab hard (RunT R t) i s∧RunT R a s
def EB (t:jK):Bool:=uc ops t (Array.replicate ops.size false) && tw ops hard t (Array.replicate ops.size false) && decide (t.depth≤ops.size)
end
section
variable {P:Program} {N:Nat} {ops:Array Oper} {Stab:ak→Nat→Prop} {hard:List Nat}
theorem jR.first {R:AS→Prop} {i:Nat} {oi:Oper} (hi:ops[i]?=some oi) (hih:i ∉ hard) (hD:∀ j oj,ops[j]?=some oj→j ∈ behind ops i→j ≠ i→∃ e ∈ oj.after,Region.binds .any e=true∧e.on ∈ behind ops i):∀ (fuel:Nat) (listed:Array Bool) (s s':AS),
    (∀ j ∈ behind ops i,listed.getD j true=false)→(∀ j oj,ops[j]?=some oj→j ≠ i→listed.getD j true=false→j ∉ behind ops i→oi.apart ops oj=true) →
    i ∈ Region.ready .any ops listed→Stab s.2.1 s.2.2→DZ P N ops Stab oi s s'→jR P N ops Stab hard R fuel (listed.setIfInBounds i true) s'→jR P N ops Stab hard R (fuel+1) listed s:=by
  intro fuel
  induction fuel with
  | zero=>
    intro listed s s' _ _ hr hS hst H
    refine⟨fun h=>(by rw[h] at hr;cases hr),fun j hj=>?_⟩
    by_cases hji:j=i
    · subst hji;exact⟨oi,hi,.inl ⟨hih,hS,s',hst,H⟩⟩
    · have:=ready_mono hj hji
      rw[H.1] at this
      cases this
  | succ fuel ih=>
    intro listed s s' hinv hfree hr hS hst H
    refine⟨fun h=>(by rw[h] at hr;cases hr),fun j hj=>?_⟩
    by_cases hji:j=i
    · subst hji;exact⟨oi,hi,.inl ⟨hih,hS,s',hst,H⟩⟩
    · obtain⟨oj,hoj,hbr⟩:=H.2 j (ready_mono hj hji)
      obtain⟨hjun,oj',hoj',hall⟩:=mem_ready.1 hj
      rw[hoj] at hoj'
      cases hoj'
      have hnot:j ∉ behind ops i:=fun hd=>by
        obtain⟨e,he,hb,hed⟩:=hD j oj hoj hd hji
        have h1:=hall e he hb
        have h0:=hinv e.on hed
        rcases Nat.lt_or_ge e.on listed.size with h' | h'
        · simp[h'] at h0 h1;rw[h0] at h1;cases h1
        · simp[Array.getElem?_eq_none h'] at h1
      obtain⟨h1,h2,h3⟩:=Oper.apart_spec (hfree j oj hoj hji hjun hnot)
      have hinv':∀ k ∈ behind ops i,(listed.setIfInBounds j true).getD k true=false:=fun k hk=>by
        have hjk:j ≠ k:=fun he=>hnot (he ▸ hk)
        rw[getD_set_ne true hjk]
        exact hinv k hk
      have hfree':∀ k ok,ops[k]?=some ok→k ≠ i→(listed.setIfInBounds j true).getD k true=false→k ∉ behind ops i→oi.apart ops ok=true:=fun k ok hk hki hun hno=>by
        refine hfree k ok hk hki ?_ hno
        by_cases hjk:j=k
        · subst hjk;exact hjun
        · rw[getD_set_ne true hjk] at hun;exact hun
      obtain⟨v,rfl,hv⟩:=hst
      have lj:∀ v,loc oj.op (s.1.put oi.dst v)=loc oj.op s.1:=fun v=>iY (ea h1)
      have li:∀ v,loc oi.op (s.1.put oj.dst v)=loc oi.op s.1:=fun v=>iY (ea h3)
      have gj:∀ v,gok ops oj (s.1.put oi.dst v)=gok ops oj s.1:=fun v=>mM h1
      have gi:∀ v,gok ops oi (s.1.put oj.dst v)=gok ops oi s.1:=fun v=>mM h3
      have hvi:∀ u,(gok ops oi (s.1.put oj.dst u)=some true∧∀ H n,Stab H n→aN P N oi (loc oi.op (s.1.put oj.dst u)) H n (isV v H n))∨(gok ops oi (s.1.put oj.dst u)=some false∧v=skv):=fun u=>by
        rw[gi,li]
        exact hv
      rcases hbr with ⟨hjh,_,s'',⟨u,rfl,hu⟩,hrest⟩ | ⟨hjh,hgj,post,hoq,hrest⟩
      · simp only[lj,gj] at hu
        refine⟨oj,hoj,.inl ⟨hjh,hS,_,⟨u,rfl,hu⟩,ih (listed.setIfInBounds j true) (s.1.put oj.dst u,s.2) ((s.1.put oj.dst u).put oi.dst v,s.2) hinv' hfree' (ready_mono hr (Ne.symm hji)) hS ⟨v,rfl,hvi u⟩ ?_⟩⟩
        rw[Array.setIfInBounds_comm _ _ hji,← put_comm v u h2]
        exact hrest
      · simp only[lj,gj] at hoq hgj
        refine⟨oj,hoj,.inr ⟨hjh,hgj,post,hoq,fun u H' n' hp=>?_⟩⟩
        obtain⟨hS',hrest'⟩:=hrest u H' n' hp
        refine⟨hS',?_⟩
        have hlate:cU ops hard j=false:=by
          rw[Bool.eq_false_iff]
          intro hl
          have:=List.all_eq_true.1 hl i (List.mem_range.2 (Array.getElem?_eq_some_iff.1 hi).1)
          simp only[Bool.or_eq_true,List.contains_iff_mem] at this
          exact this.elim hih hnot
        refine ih (listed.setIfInBounds j true) (s.1.put oj.dst u,H',n') ((s.1.put oj.dst u).put oi.dst v,H',n') hinv' hfree' (ready_mono hr (Ne.symm hji)) (hS' hlate) ⟨v,rfl,hvi u⟩ ?_
        rw[Array.setIfInBounds_comm _ _ hji,← put_comm v u h2]
        exact hrest'
theorem RunT.alt {R:AS→Prop} {s:AS} {listed:Array Bool} {j:Nat}:∀ {t:jK},RunT P N ops Stab hard R t s→tw ops hard t listed=true→j ∈ t.alts→j ∈ hard∧∃ t',t'.depth+1≤t.depth∧uc ops t' (listed.setIfInBounds j true)=true∧tw ops hard t' (listed.setIfInBounds j true)=true∧qf P N ops Stab hard (RunT P N ops Stab hard R t') j s
  | .hard i t a,h,hl,hj=>by
    simp only[tw,Bool.and_eq_true,List.contains_iff_mem] at hl
    rcases List.mem_cons.1 hj with rfl | hj
    · exact⟨hl.1.1.1,t,by simp only[jK.depth];omega,hl.1.1.2,hl.1.2,h.1⟩
    · obtain⟨h1,t',h2,h3⟩:=RunT.alt (t:=a) h.2 hl.2 hj
      exact⟨h1,t',by simp only[jK.depth];omega,h3⟩
  | .fin,_,_,hj=>by cases hj
  | .stop,_,_,hj=>by cases hj
  | .free _ _,_,_,hj=>by cases hj
theorem jR.none {R:AS→Prop} {fuel:Nat} {listed:Array Bool} {s:AS} (h:Region.ready .any ops listed=[]) (hR:R s):jR P N ops Stab hard R fuel listed s:=by
  cases fuel with
  | zero=>exact⟨h,hR⟩
  | succ fuel=>exact⟨fun _=>hR,fun i hi=>by rw[h] at hi;cases hi⟩
theorem jR.lex {R:AS→Prop}:∀ (fuel:Nat) (t:jK) (listed:Array Bool) (s:AS),t.depth≤fuel→uc ops t listed=true→tw ops hard t listed=true→RunT P N ops Stab hard R t s→jR P N ops Stab hard R fuel listed s
  | _,.fin,listed,s,_,_,hB,h=>jR.none (by simpa[tw] using hB) h
  | _,.stop,_,_,_,hh,_,_=>by cases hh
  | 0,.free i t,_,_,hd,_,_,_=>by simp[jK.depth] at hd
  | fuel+1,.free i t,listed,s,hd,_,hB,⟨o,ho,hS,s',hst,hrest⟩=>by
    simp only[tw,Bool.and_eq_true,Bool.not_eq_true',List.contains_iff_mem] at hB
    obtain⟨⟨⟨⟨h1,h2⟩,h3⟩,h4⟩,h5⟩:=hB
    obtain⟨f1,f2,f3⟩:=sk ho h3
    exact jR.first ho (by simpa using h1) f1 fuel listed s s' f2 (fun j oj h1 h2 h3 h4=>(f3 j oj h1 h2 h3 h4).1) h2 hS hst (jR.lex fuel t _ _ (by simp only[jK.depth] at hd;omega) h4 h5 hrest)
  | 0,.hard i t a,_,_,hd,_,_,_=>by simp only[jK.depth] at hd;omega
  | fuel+1,.hard i t a,listed,s,hd,hh,hB,h=>by
    simp only[uc,Bool.and_eq_true,Bool.not_eq_true',List.isEmpty_eq_false_iff] at hh
    refine⟨fun h=>absurd h hh.1,fun j hj=>?_⟩
    have hja:j ∈ (jK.hard i t a).alts:=by
      have:=List.all_eq_true.1 hh.2 j hj
      simpa using this
    obtain⟨hjh,t',hd',h1,h2,o,ho,hg,post,hop,hrest⟩:=RunT.alt h hB hja
    exact⟨o,ho,.inr ⟨hjh,hg,post,hop,fun v H' n' hp=>⟨(hrest v H' n' hp).1,jR.lex fuel t' _ _ (by omega) h1 h2 (hrest v H' n' hp).2⟩⟩⟩
theorem jR.sound {R:AS→Prop} (hN:ops.toList.all (fun o=>dok N o.dst)=true) {Q:Exit→Act→World→Prop} {c0:Ctx} (hQ:∀ a c ρ,bm c0 c→Good c→cX N c ρ a→R (ρ,c.H,c.n)→Q .normal a c.w) :
    ∀ (fuel:Nat) (listed:Array Bool) (ρ:Env) (c:Ctx) (a:Act),bm c0 c→Good c→cX N c ρ a→jR P N ops Stab hard R fuel listed (ρ,c.H,c.n)→wpAny P .any ops Q fuel listed a c.w
  | 0,_,_,_,_,hk,g,r,h=>⟨h.1,hQ _ _ _ hk g r h.2⟩
  | fuel+1,listed,ρ,c,a,hk,g,r,h=>by
    refine⟨fun h0=>hQ _ _ _ hk g r (h.1 h0),fun i hi=>?_⟩
    obtain⟨o,ho,hbr⟩:=h.2 i hi
    have hd:dok N o.dst=true:=List.all_eq_true.1 hN o (by rw[← Array.getElem?_toList] at ho;exact List.mem_of_getElem? ho)
    unfold wpOp
    simp only[ho]
    rcases hbr with ⟨_,hS,s',⟨v,rfl,⟨hg,hop⟩ | ⟨hg,rfl⟩⟩,hrest⟩ | ⟨_,hg,post,hop,hrest⟩
    · rw[if_pos (cz r hN hg)]
      refine .inl (hop c.H c.n hS c a rfl rfl g (r.loc o.op) _ _ ?_)
      rintro v1 x c' ⟨rfl,hH,hn⟩ hrep hgood hkeep
      exact jR.sound hN hQ fuel _ _ c' _ (hk.trans hkeep) hgood ((r.keeps hkeep).put hd hrep) (by rw[hH,hn];exact hrest)
    · rw[if_neg (by rw[cz r hN hg];simp)]
      exact jR.sound hN hQ fuel _ _ c _ hk g (r.put hd (.v _)) hrest
    · rw[if_pos (cz r hN hg)]
      refine .inl (hop c a rfl rfl g (r.loc o.op) _ _ ?_)
      rintro v1 x c' hpost hrep hgood hkeep
      exact jR.sound hN hQ fuel _ _ c' _ (hk.trans hkeep) hgood ((r.keeps hkeep).put hd hrep) (hrest v1 c'.H c'.n hpost).2
end
section
variable {P:Program} {f:FuncId} {N:Nat} {k:List Item} {ρ:Env} {H:ak} {n:Nat} {Q:ag→ak→Nat→Prop}
def atS (J:Env→ak→Nat→Prop):AS→Prop:=fun s=>J s.1 s.2.1 s.2.2
theorem aa.FA (Stab:ak→Nat→Prop) (hard:List Nat) (t:jK) (J:Env→ak→Nat→Prop) {id:Nat} {ops:List Oper} (hm:P.follows .mixedOrders=true) (hN:ops.all (fun o=>dok N o.dst)=true) (hB:Ab.EB ops.toArray hard t=true)
    (h:RunT P N ops.toArray Stab hard (atS J) t (ρ,H,n)) (hR:∀ ρ H n,J ρ H n→aa P f N k ρ H n Q):aa P f N (.code (.region id ops.toArray true)::k) ρ H n Q:=by
  intro c a hH hn g r b cs hf hk
  subst hH
  subst hn
  obtain⟨d1,d2⟩:=kA g
  simp only[Ab.EB,Bool.and_eq_true,decide_eq_true_eq] at hB
  have hany:=jR.lex (P:=P) (N:=N) (Stab:=Stab) (hard:=hard) (ops:=ops.toArray) ops.toArray.size t (Array.replicate ops.toArray.size false) (ρ,c.H,c.n) hB.2 hB.1.1 hB.1.2 h
  have hw:(Code.region id ops.toArray true).wp P (fun e a' w'=>e = .normal∧∃ c' ρ',c'.w=w'∧bm c c'∧Good c'∧cX N c' ρ' a'∧aa P f N k ρ' c'.H c'.n Q) a c.w:=by
    refine wp_region_any hm ?_
    have:=jR.sound (P:=P) (N:=N) (Stab:=Stab) (hard:=hard) (ops:=ops.toArray) (c0:=c) (by simpa using hN) (Q:=fun e a' w'=>e = .normal∧∃ c' ρ',c'.w=w'∧bm c c'∧Good c'∧cX N c' ρ' a'∧aa P f N k ρ' c'.H c'.n Q)
      (R:=atS J) (fun a' c' ρ' hk' hg' hr' hR'=>⟨rfl,c',ρ',rfl,hk',hg',hr',hR _ _ _ hR'⟩) ops.toArray.size (Array.replicate ops.toArray.size false) ρ { c with w:={ c.w with drawn:=c.w.drawn+1 } } a d1 d2 (r.keeps d1) hany
    simpa using this
  obtain⟨e,a',w',⟨rfl,c',ρ',rfl,hk',hg',hr',hR⟩,harr⟩:=hw b k cs
  obtain⟨x,v,c'',fr,q,hr,hg,hke,hst,rest⟩:=hR c' a' rfl rfl hg' hr' b cs hf hk
  exact⟨x,v,c'',fr,q,hr,hg,hk'.trans hke,Steps.trans harr hst,rest⟩
theorem aa.F2 (Stab:ak→Nat→Prop) (hard:List Nat) (t:jK) (J:Env→ak→Nat→Prop) {id:Nat} {ops:List Oper} {y:Code} (hm:P.follows .mixedOrders=true) (hN:ops.all (fun o=>dok N o.dst)=true) (hB:Ab.EB ops.toArray hard t=true)
    (h:RunT P N ops.toArray Stab hard (atS J) t (ρ,H,n)) (hR:∀ ρ H n,J ρ H n→aa P f N (.code y::k) ρ H n Q):aa P f N (.code (.seq (.region id ops.toArray true) y)::k) ρ H n Q:=
  aa.seq (aa.FA Stab hard t J hm hN hB h hR)
end
section
variable {P:Program} {N:Nat} {ops:Array Oper} {Stab:ak→Nat→Prop} {hard:List Nat} {R:AS→Prop} {ρ:Env} {H:ak} {n:Nat} {i:Nat} {l:jK} {Ty:Types}
theorem RunT.fin {J:Env→ak→Nat→Prop} (h:J ρ H n):RunT P N ops Stab hard (atS J) .fin (ρ,H,n):=h
theorem RunT.free {o:Oper} (v:ag) (ho:ops.toList[i]?=some o) (hg:gok ops o ρ=some true) (hS:Stab H n) (hop:∀ H n,Stab H n→aN P N o (loc o.op ρ) H n (isV v H n)) (h:RunT P N ops Stab hard R l (ρ.put o.dst v,H,n)):RunT P N ops Stab hard R (.free i l) (ρ,H,n):=
  ⟨o,by rw[← Array.getElem?_toList];exact ho,hS,_,⟨v,rfl,.inl ⟨hg,hop⟩⟩,h⟩
theorem RunT.FF {o:Oper} (post:ag→ak→Nat→Prop) (ho:ops.toList[i]?=some o) (hg:gok ops o ρ=some true) (hop:aN P N o (loc o.op ρ) H n post) (h:∀ v H' n',post v H' n'→(cU ops hard i=false→Stab H' n')∧RunT P N ops Stab hard R l (ρ.put o.dst v,H',n')):qf P N ops Stab hard (RunT P N ops Stab hard R l) i (ρ,H,n):=
  ⟨o,by rw[← Array.getElem?_toList];exact ho,hg,post,hop,h⟩
theorem RunT.step (hT:aU P Ty) {o:Oper} {v:ag} {H':ak} {n':Nat} (ho:ops.toList[i]?=some o) (hg:gok ops o ρ=some true) (hs:a6 Ty o.dst o.op ρ H n=some (v,H',n')) (hS:cU ops hard i=false→Stab H' n') (h:RunT P N ops Stab hard R l (ρ.put o.dst v,H',n')):qf P N ops Stab hard (RunT P N ops Stab hard R l) i (ρ,H,n):=
  RunT.FF (isV v H' n') ho hg (aJ hT (by rw[aC];exact hs)) (by rintro _ _ _ ⟨rfl,rfl,rfl⟩;exact⟨hS,h⟩)
theorem RunT.same (hT:aU P Ty) {o:Oper} {v:ag} (ho:ops.toList[i]?=some o) (hg:gok ops o ρ=some true) (hs:a6 Ty o.dst o.op ρ H n=some (v,H,n)) (hS:cU ops hard i=false→Stab H n) (h:RunT P N ops Stab hard R l (ρ.put o.dst v,H,n)):qf P N ops Stab hard (RunT P N ops Stab hard R l) i (ρ,H,n):=
  RunT.step hT ho hg hs hS h
theorem tI {d:Operand} {args:Array Operand} {ats:Array TypeId}:args.toList.map (loc (.call ⟨.value d,args,ats⟩) ρ).ev=args.toList.map ρ.ev∧(loc (.call ⟨.value d,args,ats⟩) ρ).ev d=ρ.ev d:=
  ⟨List.map_congr_left fun x hx=>fu (by simp[Op.operands,Call.operands];exact .inr (by simpa using hx)),fu (by simp[Op.operands,Call.operands])⟩
theorem RunT.cd {K:List bT} {ids:List Id} {d:Option Tmp} {g:Operand} {args:Array Operand} {ats:Array TypeId} {ty:TypeId} {pos:String} {af:Array Edge} {gu:Option (Nat × Bool)} {R':ag→Prop} {f':FuncId} {as1 args':List ag} {sh:Sh}
    (ho:ops.toList[i]?=some ⟨d,.call ⟨.value g,args,ats⟩,ty,pos,af,gu⟩) (hgu:gok ops ⟨d,.call ⟨.value g,args,ats⟩,ty,pos,af,gu⟩ ρ=some true) (h:a7 P f' args' sh R') (hent:Ent P f') (ha:bA H n as1 args') (hs:Sep H n K ids) (hg:ρ.ev g = .fn (.func f') [] []) (has:args.toList.map ρ.ev=as1)
    (hk:∀ v H1 n1 r,Sep H1 n1 ((sh,v,r)::K) ids→R' r→n≤n1→(∀ i ∈ ids,H1 i=H i)→(cU ops hard i=false→Stab H1 n1)∧RunT P N ops Stab hard R l (ρ.put d v,H1,n1)) :
    qf P N ops Stab hard (RunT P N ops Stab hard R l) i (ρ,H,n):=
  RunT.FF _ ho hgu (aN.cd (by rw[tI.2];exact hg) hent (by rw[tI.1,has];exact ha) h hs) fun v H' n' ⟨r,h1,h2,h3,h4⟩=>hk v H' n' r h1 h2 h3 h4
theorem RunT.append (hT:aU P Ty) {d:Nat} {t:TypeId} {j:TI} {s x:Operand} {ty:TypeId} {pos:String} {af:Array Edge} {gu:Option (Nat × Bool)} {v xv:ag} {l':List Sh} {es:List (List ag)} {ids:List Id} (K1 K2:List bT) (add adds:List (List ag))
    (ho:ops.toList[i]?=some ⟨some d,.call ⟨.builtin .append,#[s,x],#[t,t]⟩,ty,pos,af,gu⟩) (hgu:gok ops ⟨some d,.call ⟨.builtin .append,#[s,x],#[t,t]⟩,ty,pos,af,gu⟩ ρ=some true) (hsv:ρ.ev s=v) (hxv:ρ.ev x=xv) (h:Sep H n ((.s l',v,.list true es)::(K1++K2)) ids) (hk:kd Ty t = .slice j) (hj:j.size=l'.length) (hz:j.zero.length=j.size∧j.bytes≤131072)
    (hx:dE H xv=some add) (ho1:add.all (fun e=>e.all Ab.ay)=true) (hadd:∀ S,Row H (K1.map (·.1)) (K1.map (·.2.1)) (K1.map (·.2.2)) S→bx (Row H l') add adds S) (hne:adds ≠ []) (hlen:es.length+adds.length≤1073741824)
    (hc:∀ v' H' n',Sep H' n' ((.s l',v',.list true (es++adds))::K2) ids→(∀ i ∈ ids,H' i=H i)→n≤n'→(cU ops hard i=false→Stab H' n')∧RunT P N ops Stab hard R l (ρ.put (some d) v',H',n')):qf P N ops Stab hard (RunT P N ops Stab hard R l) i (ρ,H,n):=by
  obtain⟨v',H',n',h1,h2,h3,h4⟩:=Sep.append (d:=d) h hk hj hz hx ho1 hadd hne hlen
  obtain⟨q1,q2⟩:=hc v' H' n' h2 h3 h4
  refine RunT.step hT ho hgu ?_ q1 q2
  show (if t=t then ba Ty (some d) t (ρ.ev s) (ρ.ev x) H n else none)=_
  rw[if_pos rfl,hsv,hxv,h1]
theorem RunT.mT (hT:aU P Ty) {d:Nat} {t:TypeId} {j:TI} {s x:Operand} {ty:TypeId} {pos:String} {af:Array Edge} {gu:Option (Nat × Bool)} {v xv:ag} {l':List Sh} {es:List (List ag)} {K:List bT} {ids:List Id} (add:List (List ag))
    (ho:ops.toList[i]?=some ⟨some d,.call ⟨.builtin .append,#[s,x],#[t,t]⟩,ty,pos,af,gu⟩) (hgu:gok ops ⟨some d,.call ⟨.builtin .append,#[s,x],#[t,t]⟩,ty,pos,af,gu⟩ ρ=some true) (hsv:ρ.ev s=v) (hxv:ρ.ev x=xv) (h:Sep H n ((.s l',v,.list true es)::K) ids) (hf:∀ t ∈ l',t = .c) (hk:kd Ty t = .slice j) (hj:j.size=l'.length) (hz:j.zero.length=j.size∧j.bytes≤131072)
    (hx:dE H xv=some add) (ho1:∀ e ∈ add,e.length=l'.length∧∀ a ∈ e,bJ a∧Ab.ay a=true) (hlen:es.length+add.length≤1073741824)
    (hc:∀ v' H' n',Sep H' n' ((.s l',v',.list true (es++add))::K) ids→(∀ i ∈ ids,H' i=H i)→n≤n'→(cU ops hard i=false→Stab H' n')∧RunT P N ops Stab hard R l (ρ.put (some d) v',H',n')):qf P N ops Stab hard (RunT P N ops Stab hard R l) i (ρ,H,n):=by
  obtain⟨v',H',n',h1,h2,h3,h4⟩:=Sep.mT (d:=d) h hf hk hj hz hx ho1 hlen
  obtain⟨q1,q2⟩:=hc v' H' n' h2 h3 h4
  refine RunT.step hT ho hgu ?_ q1 q2
  show (if t=t then ba Ty (some d) t (ρ.ev s) (ρ.ev x) H n else none)=_
  rw[if_pos rfl,hsv,hxv,h1]
end
end Go.Ab
/- The abstract machine, part Sg: the library's sort and Compact of numbers, of a slice of the caller's own. -/
namespace Go.Ab
open Go.Proofs Go.RowKit
set_option linter.unusedSectionVars false
abbrev tv (l:List Int):ag:=.list true (l.map fun s=>[int s])
theorem pU {c:Ctx} (g:Good c) {id:Id} {ss ss':List Int} (ho:c.H id=some ⟨1,ss.map fun s=>[int s]⟩) (hl:ss'.length=ss.length) (off:Nat) (hoff:off=0∨ss'=[]) (m:Nat) (os:Array Obj) :
    let c':Ctx:={ c with H:=c.H.set id ⟨1,ss'.map fun s=>[int s]⟩,w:=Sort.grow (Sort.putRow (Value.int .i64) (Sort.ahead c.w m) (c.β id) off ss'.toArray) os }
    bm c c'∧Good c':=by
  intro c'
  obtain⟨hB,cl,el,hh,hsz,hel⟩:=g.obj id _ ho
  simp only[List.length_map,Nat.mul_one] at hsz
  have hnew:(Sort.putRow (Value.int .i64) (Sort.ahead c.w m) (c.β id) off ss'.toArray).heap[c.β id]?=some (.cells (Sort.putCells (Value.int .i64) off ss'.toArray cl) el (0,0)):=by
    simp only[Sort.putRow,Sort.mapBlock,Sort.ahead,Array.getElem?_modify,hh]
    simp[Sort.onCells]
  have hoth:∀ k,k ≠ c.β id→(Sort.putRow (Value.int .i64) (Sort.ahead c.w m) (c.β id) off ss'.toArray).heap[k]?=c.w.heap[k]?:=fun k hk=>by
    simp only[Sort.putRow,Sort.mapBlock,Sort.ahead,Array.getElem?_modify]
    rw[if_neg (Ne.symm hk)]
  obtain⟨k1,g1⟩:=lT g ho ⟨1,ss'.map fun s=>[int s]⟩ (Sort.putRow (Value.int .i64) (Sort.ahead c.w m) (c.β id) off ss'.toArray) cl (Sort.putCells (Value.int .i64) off ss'.toArray cl) el el ⟨rfl,rfl,rfl⟩ (by simp[Sort.ahead]) hh hoth hnew
    (by simp[Sort.putCells]) rfl (by simp[hl]) (by
      refine⟨by simp[Sort.putCells];omega,fun i e he=>?_⟩
      rw[List.getElem?_map] at he
      obtain⟨s,hs,rfl⟩:=Option.map_eq_some_iff.1 he
      refine⟨rfl,fun j a ha=>?_⟩
      have hi:i<ss'.length:=(List.getElem?_eq_some_iff.1 hs).1
      have ho0:off=0:=hoff.elim (fun h=>h) fun h=>by subst h;simp at hi
      subst ho0
      match j,ha with
      | 0,ha=>
        simp only[List.getElem?_cons_zero,Option.some.injEq] at ha
        subst ha
        refine⟨(Value.int .i64) s,?_,.v _⟩
        rw[oY]
        have hic:i<cl.size:=by omega
        simp only[Nat.mul_one,Nat.add_zero,Array.getElem?_eq_getElem hic,Option.map_some,Nat.zero_le,true_and,Nat.zero_add,Nat.sub_zero,List.size_toArray,hi,if_true,Option.some.injEq]
        have:ss'.toArray[i]! = s:=by
          obtain⟨h1,h2⟩:=List.getElem?_eq_some_iff.1 hs
          simp[h1,h2]
        rw[this]
      | j+1,ha=>simp at ha)
  obtain⟨k2,g2⟩:=cN g1 c'.w ⟨rfl,rfl,rfl⟩ (by simp[c']) fun k hk=>Sort.heap_grow_old _ _ hk
  exact⟨k1.trans k2,g2⟩
theorem eb.Hq {P:Program} {f:FuncId} {ss:List Int} (hlen:ss.length<4611686018427387904)
    (hs:∀ (blk off cap:Nat) (w:World),Sort.Holds (Value.int .i64) w blk off ss.toArray→blk<w.heap.size→Calls P f #[.slice (some ⟨blk,off,none⟩) ss.length cap] w fun e w'=>
      e = .returned (.tuple #[])∧∃ n os,w'=Sort.grow (Sort.putRow (Value.int .i64) (Sort.ahead w n) blk off (ss.mergeSort fun x y=>decide (x≤y)).toArray) os)
    (hnil:∀ w:World,Calls P f #[.slice none 0 0] w fun e w'=>e = .returned (.tuple #[])∧Below w.heap.size w w') :
    eb P f (fun v=>[v]) (.s [.c]) (tv ss) (fun e r=>e=tv (ss.mergeSort fun x y=>decide (x≤y))∧r = .tup []):=by
  intro H n v K ids hsep c xs hH hn g r
  subst hH hn
  obtain⟨x,rfl,hx⟩:∃ x,xs=[x]∧Rep c v x:=by
    obtain⟨hl,hr⟩:=r
    match xs,hl with
    | [x],_=>exact⟨x,rfl,hr 0 v x rfl rfl⟩
  obtain⟨h0,S,h1,h2⟩:=hsep
  simp only[List.map_cons,Row,Tr] at h1
  obtain⟨S1,S2,h3,h4,rfl,h5⟩:=h1
  rcases h3 with ⟨rfl,e,rfl⟩ | ⟨id,els,es',T,rfl,he,q3,q4,q5,rfl⟩
  · have hss:ss=[]:=by simpa[tv] using e
    subst hss
    rw[hx.bS]
    refine (hnil c.w).mono ?_
    rintro e w' ⟨rfl,hb⟩
    obtain⟨hk,hg⟩:=cN g w' ⟨hb.os,hb.tape,hb.output⟩ hb.size hb.block
    refine⟨_,.tup [],{ c with w:=w' },rfl,rfl,⟨_,⟨rfl,rfl⟩,⟨h0,_,?_,h2⟩,fun _ _=>rfl,Nat.le_refl _⟩,.tup [] [] rfl (by simp),hg,hk⟩
    simp only[List.map_cons,Row,Tr]
    exact⟨[],S2,.inl (by simp[tv]),h4,rfl,by simp⟩
  · simp only[tv,ag.list.injEq,true_and] at he
    subst he
    obtain⟨rfl,rfl⟩:=kB (by simp) q4
    have hm:(ss.mergeSort fun x y=>decide (x≤y)).length=ss.length:=List.length_mergeSort ss
    have q3':c.H id=some ⟨1,ss.map fun s=>[int s]⟩:=q3
    have hcell:∀ i s,ss[i]?=some s→c.w.cell? ⟨c.β id,i,none⟩=some ((Value.int .i64) s):=fun i s hi=>by
      obtain⟨x,h1,h2⟩:=g.cell q3' (i:=i) (j:=0) (e:=[int s]) (a:=int s) (by rw[List.getElem?_map,hi];rfl) rfl
      rw[h2.bS] at h1
      simpa using h1
    cases hx with
    | arr _ _ _ _ _ _ hn hg h=>
      obtain⟨hle,a,cap,rfl,hab,hsp,hlc,hoff,hcl⟩:=h _ q3' (by simp)
      obtain⟨bk,off,sp⟩:=a
      simp only at hab hsp
      subst hab hsp
      have hz:off=0∨ss=[]:=by
        rcases hoff with h | h
        · left;simpa using h
        · right;simpa[h] using hlc
      have hz':off=0∨(ss.mergeSort fun x y=>decide (x≤y))=[]:=hz.imp_right fun h=>by subst h;simp
      have hbk:c.β id<c.w.heap.size:=g.lt q3'
      have key:=hs (c.β id) off cap c.w (fun j hj=>by
        have hj':j<ss.length:=by simpa using hj
        have h0:off=0:=hz.elim (fun h=>h) fun h=>by subst h;simp at hj'
        subst h0
        refine⟨?_,g.frozen q3' _⟩
        rw[Nat.zero_add,hcell j ss[j] (List.getElem?_eq_getElem hj')]
        simp[hj']) hbk
      simp only[List.length_map] at *
      refine key.mono ?_
      rintro e w' ⟨rfl,m,os,rfl⟩
      obtain⟨hk,hg'⟩:=pU g q3' hm off hz' m os
      refine⟨_,.tup [],{ c with H:=c.H.set id ⟨1,(ss.mergeSort fun x y=>decide (x≤y)).map fun s=>[int s]⟩,w:=Sort.grow (Sort.putRow (Value.int .i64) (Sort.ahead c.w m) (c.β id) off (ss.mergeSort fun x y=>decide (x≤y)).toArray) os },rfl,rfl,⟨_,⟨rfl,rfl⟩,⟨h0,id::S2,?_,?_⟩,fun i hi=>?_,Nat.le_refl _⟩,.tup [] [] rfl (by simp),hg',hk⟩
      · simp only[List.map_cons,Row,Tr]
        refine⟨[id],S2,.inr ⟨id,(ss.mergeSort fun x y=>decide (x≤y)).map fun s=>[int s],(ss.mergeSort fun x y=>decide (x≤y)).map fun s=>[int s],[],by simp[hm],rfl,?_,?_,by simp,rfl⟩,h4.frame fun i hi=>?_,rfl,?_⟩
        · exact ak.bB _ _ _
        · exact bx.xw (by simp[int,flat]) (by simp)
        · exact ak.aQ _ _ (by rintro rfl;exact h5 i (by simp) hi)
        · intro i hi;exact h5 i (by simpa using hi)
      · intro i hi;exact h2 i (by simpa using hi)
      · exact ak.aQ _ _ (by rintro rfl;exact (h2 i (by simp)).2 hi)
theorem o8.ED {P:Program} {f:FuncId} {ss ss':List Int} (hle:ss'.length≤ss.length)
    (hs:∀ (blk off cap:Nat) (w:World),Sort.Holds (Value.int .i64) w blk off ss.toArray→ss.length≤cap→Calls P f #[.slice (some ⟨blk,off,none⟩) ss.length cap] w fun e w'=>
      e = .returned (.slice (some ⟨blk,off,none⟩) ss'.length cap)∧∃ q,w'=Sort.putRow (Value.int .i64) (Sort.ahead w q) blk off (ss'++List.replicate (ss.length - ss'.length) 0).toArray)
    (hnil:ss=[]→∀ w:World,Calls P f #[.slice none 0 0] w fun e w'=>e = .returned (.slice none 0 0)∧w'=w) :
    o8 P f (fun v=>[v]) (.s [.c]) (tv ss) (.s [.c]) (fun e=>e=tv ss'):=by
  intro H n v K ids hsep c xs hH hn g r
  subst hH hn
  obtain⟨x,rfl,hx⟩:∃ x,xs=[x]∧Rep c v x:=by
    obtain⟨hl,hr⟩:=r
    match xs,hl with
    | [x],_=>exact⟨x,rfl,hr 0 v x rfl rfl⟩
  obtain⟨h0,S,h1,h2⟩:=hsep
  simp only[List.map_cons,Row,Tr] at h1
  obtain⟨S1,S2,h3,h4,rfl,h5⟩:=h1
  rcases h3 with ⟨rfl,e,rfl⟩ | ⟨id,els,es',T,rfl,he,q3,q4,q5,rfl⟩
  · have hss:ss=[]:=by simpa[tv] using e
    subst hss
    have hss':ss'=[]:=List.eq_nil_of_length_eq_zero (by simpa using hle)
    subst hss'
    rw[hx.bS]
    refine (hnil rfl c.w).mono ?_
    rintro e w' ⟨rfl,rfl⟩
    refine⟨_,.v (.slice none 0 0),c,rfl,rfl,⟨_,rfl,⟨h0,_,?_,h2⟩,fun _ _=>rfl,Nat.le_refl _⟩,.v _,g,bm.refl c⟩
    simp only[List.map_cons,Row,Tr]
    exact⟨[],S2,.inl (by simp[tv]),h4,rfl,by simp⟩
  · simp only[tv,ag.list.injEq,true_and] at he
    subst he
    obtain⟨rfl,rfl⟩:=kB (by simp) q4
    have q3':c.H id=some ⟨1,ss.map fun s=>[int s]⟩:=q3
    have hcell:∀ i s,ss[i]?=some s→c.w.cell? ⟨c.β id,i,none⟩=some ((Value.int .i64) s):=fun i s hi=>by
      obtain⟨x,h1,h2⟩:=g.cell q3' (i:=i) (j:=0) (e:=[int s]) (a:=int s) (by rw[List.getElem?_map,hi];rfl) rfl
      rw[h2.bS] at h1
      simpa using h1
    cases hx with
    | arr _ _ _ _ _ _ hn hg h=>
      obtain⟨hle1,a,cap,rfl,hab,hsp,hlc,hoff,hcl⟩:=h _ q3' (by simp)
      obtain⟨bk,off,sp⟩:=a
      simp only at hab hsp
      subst hab hsp
      have hz:off=0∨ss=[]:=by
        rcases hoff with h | h
        · left;simpa using h
        · right;simpa[h] using hlc
      have hbk:c.β id<c.w.heap.size:=g.lt q3'
      have hm:(ss'++List.replicate (ss.length - ss'.length) (0:Int)).length=ss.length:=by simp;omega
      have hz':off=0∨(ss'++List.replicate (ss.length - ss'.length) (0:Int))=[]:=hz.imp_right fun h=>by
        subst h
        exact List.eq_nil_of_length_eq_zero (by rw[hm];rfl)
      have key:=hs (c.β id) off cap c.w (fun j hj=>by
        have hj':j<ss.length:=by simpa using hj
        have h0:off=0:=hz.elim (fun h=>h) fun h=>by subst h;simp at hj'
        subst h0
        refine⟨?_,g.frozen q3' _⟩
        rw[Nat.zero_add,hcell j ss[j] (List.getElem?_eq_getElem hj')]
        simp[hj']) (by simpa using hlc)
      simp only[List.length_map] at *
      refine key.mono ?_
      rintro e w' ⟨rfl,q,rfl⟩
      obtain⟨hk,hg'⟩:=pU g q3' hm off hz' q #[]
      have hgr:Sort.grow (Sort.putRow (Value.int .i64) (Sort.ahead c.w q) (c.β id) off (ss'++List.replicate (ss.length - ss'.length) (0:Int)).toArray) #[]=Sort.putRow (Value.int .i64) (Sort.ahead c.w q) (c.β id) off (ss'++List.replicate (ss.length - ss'.length) (0:Int)).toArray:=by
        simp[Sort.grow]
        rfl
      rw[hgr] at hk hg'
      generalize hc1:({ c with H:=c.H.set id ⟨1,(ss'++List.replicate (ss.length - ss'.length) (0:Int)).map fun s=>[int s]⟩,w:=Sort.putRow (Value.int .i64) (Sort.ahead c.w q) (c.β id) off (ss'++List.replicate (ss.length - ss'.length) (0:Int)).toArray }:Ctx)=c1 at hk hg'
      have hH1:c1.H id=some ⟨1,(ss'++List.replicate (ss.length - ss'.length) (0:Int)).map fun s=>[int s]⟩:=by rw[← hc1];exact ak.bB _ _ _
      have hHo:∀ j,j ≠ id→c1.H j=c.H j:=fun j hj=>by rw[← hc1];exact ak.aQ _ _ hj
      have hn1:c1.n=c.n:=by rw[← hc1]
      have hb1:c1.β=c.β:=by rw[← hc1]
      have hw1:c1.w=Sort.putRow (Value.int .i64) (Sort.ahead c.w q) (c.β id) off (ss'++List.replicate (ss.length - ss'.length) (0:Int)).toArray:=by rw[← hc1]
      have htk:((ss'++List.replicate (ss.length - ss'.length) (0:Int)).map fun s=>[int s]).take ss'.length=ss'.map fun s=>[int s]:=by
        rw[← List.map_take,List.take_left]
      obtain⟨hk2,hg2⟩:=A7 hg' hH1 ss'.length 0 (by simp)
      simp only[htk] at hk2 hg2
      generalize hc2:({ c1 with H:=fun j=>if j=(c1.n,0) then some ⟨1,ss'.map fun s=>[int s]⟩ else if j=id then none else c1.H j,β:=fun j=>if j=(c1.n,0) then c1.β id else c1.β j,n:=c1.n+1 }:Ctx)=c2 at hk2 hg2
      have hH2:c2.H (c.n,0)=some ⟨1,ss'.map fun s=>[int s]⟩:=by rw[← hc2,← hn1];simp
      have hidn:id.1<c.n:=hn
      have hHo2:∀ j:Id,j ≠ id→j.1<c.n→c2.H j=c.H j:=fun j hj hlt=>by
        rw[← hc2,← hHo j hj]
        simp only
        rw[if_neg (by rintro rfl;rw[hn1] at hlt;simp at hlt),if_neg hj]
      have hn2:c2.n=c.n+1:=by rw[← hc2,← hn1]
      have hb2:c2.β (c.n,0)=c.β id:=by rw[← hc2,← hn1];simp[hb1]
      have hw2:c2.w=c1.w:=by rw[← hc2]
      refine⟨_,.arr (c.n,0) ss'.length 0 ss'.length,c2,rfl,by rw[hw2,hw1],⟨_,rfl,⟨fun i hi=>by have:=h0 i hi;omega,(c.n,0)::S2,?_,fun i hi=>?_⟩,fun i hi=>hHo2 i (by rintro rfl;exact (h2 i (by simp)).2 hi) (h0 i hi),by omega⟩,?_,hg2,hk.trans hk2⟩
      · simp only[List.map_cons,Row,Tr]
        refine⟨[(c.n,0)],S2,.inr ⟨(c.n,0),ss'.map fun s=>[int s],ss'.map fun s=>[int s],[],by simp,rfl,hH2,bx.xw (by simp[int,flat]) (by simp),by simp,rfl⟩,h4.frame fun i hi=>?_,rfl,?_⟩
        · exact hHo2 i (by rintro rfl;exact h5 i (by simp) hi) (h2 i (by simp[hi])).1
        · intro i hi hm
          have:=(h2 i (by simp[hm])).1
          simp at hi;subst hi;simp at this
      · rcases List.mem_cons.1 hi with rfl | hi
        · exact⟨by show c.n<c2.n;omega,fun hm=>by have:=h0 _ hm;simp at this⟩
        · have:=h2 i (by simp[hi]);exact⟨by omega,this.2⟩
      · refine .arr _ _ _ _ _ rfl (by show c.n<c2.n;omega) ?_ ?_
        · intro o ho
          rw[hH2] at ho;cases ho;simp
        · intro o ho _
          rw[hH2] at ho;cases ho
          refine⟨by omega,_,_,rfl,by simp[hb2],rfl,by omega,?_,fun cl el fz hh=>?_⟩
          · rcases hoff with h | h
            · left;simpa using h
            · right;exact h
          · rw[hb2,hw2,hw1] at hh
            obtain⟨_,cl0,el0,hh0,_⟩:=g.obj id _ q3'
            have hnew:(Sort.putRow (Value.int .i64) (Sort.ahead c.w q) (c.β id) off (ss'++List.replicate (ss.length - ss'.length) (0:Int)).toArray).heap[c.β id]?=some (.cells (Sort.putCells (Value.int .i64) off (ss'++List.replicate (ss.length - ss'.length) (0:Int)).toArray cl0) el0 (0,0)):=by
              simp only[Sort.putRow,Sort.mapBlock,Sort.ahead,Array.getElem?_modify,hh0]
              simp[Sort.onCells]
            rw[hnew] at hh
            cases hh
            have:=hcl cl0 _ (0,0) hh0
            simpa[Sort.putCells] using this
def av (b:Bool):List ag:=[Ab.bool b]
theorem FE (l:List Bool):∀ e ∈ l.map av,∀ a ∈ e,flat a=true:=by
  intro e he a ha
  obtain⟨x,_,rfl⟩:=List.mem_map.1 he
  simp only[av,List.mem_cons,List.not_mem_nil,or_false] at ha
  subst ha
  rfl
def fB (n:Int):Str:=(Utf8.encode n).data.toList
theorem B2 (n:Int):str (fB n) = .v (.string (Utf8.encode n)):=by
  unfold fB str
  congr 2
theorem w6 {a b v:Int} (h : -2147483648≤a+b∧a+b≤2147483647) (hv:v=a+b):ai .add .i32 a b=some (.v (.int .i32 v)):=by
  subst hv
  simp only[ai]
  have:IntKind.i32.wrap (a+b)=a+b:=by
    simp only[IntKind.wrap,IntKind.bits,IntKind.signed,Bool.true_and]
    split
    · rename_i h2
      simp at h2
      omega
    · rename_i h2
      simp at h2
      omega
  rw[this]
section
variable {P:Program} {f:FuncId} {N:Nat} {k:List Item} {Q:ag→ak→Nat→Prop} {Ty:Types} {l:List Oper} {ρ:Env} {H:ak} {n:Nat} {d:Option Tmp} {ty:TypeId} {pos:String} {af:Array Edge} {gu:Option (Nat × Bool)}
theorem aN.fB (hT:aU P Ty) {s t:TypeId} {i:TI} {x:Operand} {k1:IntKind} {a:Int} (hi:Ty s=some i) (hk:kd Ty t = .string) (hx:ρ.ev x = .v (.int k1 a)) :
    aN P N ⟨d,.convert s t x,ty,pos,af,gu⟩ ρ H n (isV (str (Ab.fB a)) H n):=
  aN.pure fun c e _ _ r=>by
    have rx:=r.ev x
    rw[hx] at rx
    obtain⟨j,hj,hd⟩:=ij hk
    have d1:=(hT s i hi).br c.w
    have d2:=(hT t j hj).br c.w
    rw[hd] at d2
    rw[B2]
    exact⟨_,by simp[execOp,rx.bS,convert,d1,d2,Conv.intToString],.v _⟩
theorem aG.fB (hT:aU P Ty) {ops:List Oper} {s t:TypeId} {i:TI} {x:Operand} {k1:IntKind} {a:Int} (hN:ops.all (fun o=>dok N o.dst)=true) (hl:(⟨d,.convert s t x,ty,pos,af,none⟩::l:List Oper).all (fun o=>dok N o.dst)=true) (hi:Ty s=some i) (hk:kd Ty t = .string) (hx:ρ.ev x = .v (.int k1 a))
    (h:ct P f N k Q Ty ops.toArray l (ρ.put d (str (Ab.fB a))) H n):aG P f N k Q ops.toArray (⟨d,.convert s t x,ty,pos,af,none⟩::l) ρ H n:=
  aG.op hT hN hl rfl (aN.fB hT hi hk hx) fun _ _ _ ⟨e1,e2,e3⟩=>by subst e1 e2 e3;exact h
end
end Go.Ab
/- fZ (statement 33): pure conditions of the functions of program and reference. -/
namespace Go.Ab.Vg
set_option linter.unusedSimpArgs false
set_option linter.unusedVariables false
abbrev j9 (l:List Int):List Int × Unit:=(l.mergeSort fun x y=>decide (x≤y),())
abbrev fg (l:List Int):List Int:=Go.Lib.compact l
theorem qh (l:List Int):(fg l).length≤l.length:=by
  have h:(fg l).length≤(List.range l.length).length:=by
    simp only[fg,Go.Lib.compact,Go.Lib.compactUpTo,List.length_map]
    exact List.length_filter_le _ _
  simpa using h
theorem zV {l m:List Int} (hl:l.Pairwise (·<·)) (hm:m.Pairwise (·<·)) (h:∀ x,x ∈ l↔x ∈ m):l=m:=by
  have n1:l.Nodup:=hl.imp fun h=>by omega
  have n2:m.Nodup:=hm.imp fun h=>by omega
  exact ((List.perm_ext_iff_of_nodup n1 n2).2 h).eq_of_pairwise (fun a b _ _ h h'=>by omega) hl hm
theorem ia {d:List Int} {j:Nat} (h:j<d.length):d.toArray[j]! = d[j]:=by simp[h]
theorem oq {d:List Int} (hd:d.Pairwise (·≤·)):∀ m,m≤d.length→(Go.Lib.compactUpTo d.toArray m).Pairwise (·<·)∧∀ x,x ∈ Go.Lib.compactUpTo d.toArray m↔x ∈ d.take m
  | 0,_=>by simp[Go.Lib.compactUpTo]
  | m+1,hm=>by
    obtain⟨h1,h2⟩:=oq hd m (by omega)
    have hm1:m<d.length:=by omega
    have htk:d.take (m+1)=d.take m++[d[m]]:=List.take_succ_eq_append_getElem hm1
    rw[Go.Lib.compactUpTo_succ,htk]
    by_cases hk:Go.Lib.keeps d.toArray m=true
    · rw[if_pos hk]
      have hlt:∀ a ∈ d.take m,a<d[m]:=fun a ha=>by
        obtain⟨j,hj,rfl⟩:=List.getElem_of_mem ha
        have hjm:j<m:=by simp at hj;omega
        rw[List.getElem_take]
        simp only[Go.Lib.keeps,decide_eq_true_eq] at hk
        have hne:d[m] ≠ d[m - 1]:=by
          rcases hk with h | h
          · omega
          · rwa [ia hm1,ia (show m - 1<d.length by omega)] at h
        have hp:=List.pairwise_iff_getElem.1 hd
        have h3:d[m - 1]≤d[m]:=hp (m - 1) m (by omega) hm1 (by omega)
        rcases Nat.lt_or_ge j (m - 1) with h5 | h5
        · have h6:=hp j (m - 1) (by omega) (by omega) h5
          omega
        · have:j=m - 1:=by omega
          subst this;omega
      refine⟨List.pairwise_append.2 ⟨h1,by simp,fun a ha b hb=>?_⟩,fun x=>?_⟩
      · simp only[List.mem_singleton,ia hm1] at hb
        subst hb
        exact hlt a ((h2 a).1 ha)
      · simp only[List.mem_append,h2,ia hm1]
    · rw[if_neg hk,List.append_nil]
      refine⟨h1,fun x=>?_⟩
      rw[h2,List.mem_append]
      refine⟨.inl,fun h=>h.elim id fun h=>?_⟩
      simp only[Go.Lib.keeps,decide_eq_true_eq,not_or,Decidable.not_not] at hk
      obtain⟨k0,k1⟩:=hk
      rw[ia hm1,ia (show m - 1<d.length by omega)] at k1
      simp only[List.mem_singleton] at h
      subst h
      rw[k1]
      exact List.mem_iff_getElem.2 ⟨m - 1,by simp;omega,by simp⟩
theorem gV (l:List Int):(fg (j9 l).1).Pairwise (·<·)∧∀ x,x ∈ fg (j9 l).1↔x ∈ l:=by
  have h3:(j9 l).1.Pairwise (·≤·):=by
    have:=List.pairwise_mergeSort (le:=fun x y:Int=>decide (x≤y)) (fun a b c h1 h2=>by simp only[decide_eq_true_eq] at *;omega) (fun a b=>by simp;omega) l
    simpa[j9] using this
  obtain⟨h1,h2⟩:=oq h3 (j9 l).1.length (Nat.le_refl _)
  refine⟨h1,fun x=>(h2 x).trans ?_⟩
  rw[List.take_length]
  exact List.mem_mergeSort
def ga (k:Nat):Str:=122::fB (97+k)
def G0:Str→Nat
  | [_,a]=>a.toNat - 97
  | [_,a,b]=>(a.toNat - 192) * 64+(b.toNat - 128) - 97
  | _=>0
theorem rJ:∀ k:Fin 64,G0 (ga k)=k:=by decide
theorem CK {i j:Nat} (hi:i<64) (hj:j<64) (h:ga i=ga j):i=j:=by
  have h1:=rJ ⟨i,hi⟩
  have h2:=rJ ⟨j,hj⟩
  simp only at h1 h2
  rw[← h1,← h2,h]
def en (outer:List Str) (k:Nat):List Str:=((List.range k).map ga).filter fun s=>decide (s ∉ outer)
theorem iQ (outer:List Str) (k:Nat):en outer (k+1)=if ga k ∈ outer then en outer k else en outer k++[ga k]:=by
  rw[en,List.range_succ,List.map_append,List.filter_append]
  by_cases h:ga k ∈ outer<;>simp[h,en]
theorem EC {l m:List Str} (h:l.Nodup) (hs:∀ x ∈ l,x ∈ m):l.length≤m.length:=by
  induction l generalizing m with
  | nil=>simp
  | cons x l ih=>
    have hx:x ∈ m:=hs x (by simp)
    rw[List.nodup_cons] at h
    have:=ih (m:=m.erase x) h.2 fun y hy=>(List.mem_erase_of_ne (by rintro rfl;exact h.1 hy)).2 (hs y (by simp[hy]))
    rw[List.length_erase_of_mem hx] at this
    have:=List.length_pos_of_mem hx
    simp only[List.length_cons]
    omega
theorem pd (outer:List Str) {k:Nat} (hk:k≤64):k≤(en outer k).length+outer.length:=by
  have h1:(((List.range k).map ga).filter fun s=>decide (s ∈ outer)).length≤outer.length:=by
    refine EC ?_ fun x hx=>by simpa using (List.mem_filter.1 hx).2
    refine List.Nodup.sublist List.filter_sublist ?_
    rw[List.Nodup,List.pairwise_map]
    refine List.Pairwise.imp_of_mem (R:=(· ≠ ·)) (fun {a b} ha hb hne h=>hne (CK ?_ ?_ h)) List.nodup_range
    · have:=List.mem_range.1 ha;omega
    · have:=List.mem_range.1 hb;omega
  have h2:∀ l:List Str,(l.filter fun s=>decide (s ∈ outer)).length+(l.filter fun s=>decide (s ∉ outer)).length=l.length:=by
    intro l
    induction l with
    | nil=>rfl
    | cons x l ih=>by_cases h:x ∈ outer<;>simp[h]<;>simp at ih<;>omega
  have:=h2 ((List.range k).map ga)
  simp only[List.length_map,List.length_range] at this
  rw[en]
  omega
theorem BP (outer:List Str) {j k:Nat} (h:j≤k):en outer j <+: en outer k:=by
  induction k with
  | zero=>rw[show j=0 by omega];exact List.prefix_rfl
  | succ k ih=>
    rcases Nat.lt_or_ge j (k+1) with h1 | h1
    · refine (ih (by omega)).trans ?_
      rw[iQ]
      split
      · exact List.prefix_rfl
      · exact List.prefix_append _ _
    · rw[show j=k+1 by omega];exact List.prefix_rfl
def dR (outer:List Str) (n:Nat):List Str:=(en outer (n+outer.length)).take n
theorem su {outer:List Str} {k n:Nat} (hk:k≤n+outer.length) (hl:(en outer k).length=n):en outer k=dR outer n:=by
  have:=(List.prefix_iff_eq_take).1 (BP outer hk)
  rw[hl] at this
  exact this
abbrev la (l:List Str) (_:Str):Prop:=l.length≤1048576
abbrev ve (l:List Str) (s:Str):Bool:=decide (s ∈ l)
def mD (s:List Str) (v_:Str) (Z:Bool→Prop):Prop:=
  (ir s v_)∧∀ r3:Int,r3=dQ s v_→∀ c4:Bool,c4=decide (0≤r3)→Z c4
theorem BJ (l:List Str) (s:Str) (h:la l s):mD l s (fun y=>y=ve l s):=by
  unfold mD
  simp only[forall_eq]
  refine⟨h,?_⟩
  rw[dQ,ve]
  split<;>simp_all
def fR (b:Big) (l:List Int) (k:Nat):List Int:=((l.take k).map fun x=>(at' b.nodes x).links).flatten
theorem oV {b:Big} {l:List Int} {k:Nat} (h:k<l.length):fR b l (k+1)=fR b l k++(at' b.nodes l[k]).links:=by
  rw[fR,List.take_succ_eq_append_getElem h,List.map_append,List.flatten_append]
  simp[fR]
def eO (b:Big) (m:Match):List Int:=fR b (bI b m) (bI b m).length
def aR (b:Big) (m:Match):List Int:=fg (j9 (eO b m)).1
theorem mb {sig:Sig} {b:Big} (hV:bQ sig b) {l:List Int} (hl:∀ x ∈ l,0≤x∧x<b.nodes.length):∀ k,k≤l.length→(fR b l k).length≤3 * k
  | 0,_=>by simp[fR]
  | k+1,h=>by
    have h1:=mb hV hl k (by omega)
    have h2:=hV.jw (hl _ (List.getElem_mem (show k<l.length by omega)))
    rw[oV (by omega),List.length_append]
    omega
theorem rp {b:Big} {m:Match}:∀ x ∈ bI b m,0≤x∧x<b.nodes.length:=fun _ hx=>(rO.1 hx).1
theorem sd {sig:Sig} {b:Big} (hV:bQ sig b) (m:Match):(eO b m).length≤24:=by
  have h1:=mb hV (rp (m:=m)) _ (Nat.le_refl _)
  have h2:(bI b m).length≤b.nodes.length:=q0 3 b m b.nodes.length
  have h3:=hV.len
  rw[eO]
  omega
theorem iC {sig:Sig} {b:Big} (hV:bQ sig b) (m:Match):(aR b m).length≤24:=by
  have h1:=qh (j9 (eO b m)).1
  have h2:=sd hV m
  simp only[j9,List.length_mergeSort] at h1
  rw[aR]
  simp only[j9]
  omega
theorem zt:∀ k:Fin 64,(fun i:Nat=>(fB (97+(i:Int))).length≤4) k.val:=by
  simp only
  decide
theorem po {k:Nat} (h:k<64):(fB (97+(k:Int))).length≤4:=zt ⟨k,h⟩
theorem wE (k:Nat):[122]++fB (97+(k:Int))=ga k:=by rw[ga,List.singleton_append]
abbrev dI (redex agent:Big) (m:Match):Prop:=(∃ sig,bQ sig agent)∧redex.outer.length≤16∧m.nodes.length≤1048576
abbrev eg (redex agent:Big) (m:Match):List Int × List Str × Bool:=(aR agent m,dR redex.outer (aR agent m).length,decide ((aR agent m).length+redex.outer.length≤16))
def fh (redex:Big) (agent:Big) (m:Match) (Z:((List Int) × (List Str) × Bool)→Prop):Prop:=
  (eJ agent m)∧∀ r12:List Int,r12=bI agent m→∀ len20:Int,len20=(r12.length:Int)→aw (σ:=Int × (List Int)) (fun (v37,l38) K44=>∀ c45:Bool,c45=decide (v37<len20)→((c45=true→(0≤v37∧v37<r12.length)∧∀ x52:Int,x52=at' r12 v37→(0≤x52∧x52<agent.nodes.length)∧∀ x56:aj,x56=at' agent.nodes x52→(l38.length+x56.links.length≤1073741824)∧∀ l59:List Int,l59=l38++x56.links→(I64 (v37+1))∧∀ v71:Int,v71=v37+1→K44 (v71,l59))∧(c45=false→(l38.length≤1073741824)∧∀ r74:(List Int) × Unit,r74=j9 l38→(r74.1.length≤1073741824)∧∀ r85:List Int,r85=fg r74.1→aw (σ:=Int × (List Str)) (fun (c105,l106) K111=>∀ len112:Int,len112=(l106.length:Int)→∀ len114:Int,len114=(r85.length:Int)→∀ c116:Bool,c116=decide (len112<len114)→((c116=true→∀ v118:Str,v118=fB c105→([122].length+v118.length<4611686018427387904)∧∀ v120:Str,v120=[122]++v118→(la redex.outer v120)∧∀ r123:Bool,r123=ve redex.outer v120→((r123=true→(-2147483648≤c105+1∧c105+1≤2147483647)∧∀ v139:Int,v139=c105+1→K111 (v139,l106))∧(r123=false→(l106.length+1≤1073741824)∧∀ l125:List Str,l125=l106++[v120]→(-2147483648≤c105+1∧c105+1≤2147483647)∧∀ v136:Int,v136=c105+1→K111 (v136,l125))))∧(c116=false→∀ len144:Int,len144=(r85.length:Int)→∀ len146:Int,len146=(redex.outer.length:Int)→(I64 (len144+len146))∧∀ v149:Int,v149=len144+len146→∀ c151:Bool,c151=decide (v149≤16)→Z (r85,l106,c151)))) (97,([]:List Str))))) (0,([]:List Int))
theorem rr (redex agent:Big) (m:Match) (h:dI redex agent m):fh redex agent m (fun y=>y=eg redex agent m):=by
  unfold fh
  obtain⟨⟨sig,hV⟩,ho,hm⟩:=h
  have h8:=hV.len
  have hpl:(bI agent m).length≤agent.nodes.length:=q0 3 agent m agent.nodes.length
  simp only[forall_eq,decide_eq_true_eq,decide_eq_false_iff_not]
  refine⟨⟨hV.om,hm⟩,?_⟩
  refine aw.upL (bI agent m).length (fun k t=>t=fR agent (bI agent m) k) [] rfl ?_
  rintro k _ K hk rfl IH
  dsimp only
  have hl:=mb hV (rp (m:=m)) k hk
  refine⟨fun h1=>?_,fun h1=>?_⟩
  · have hk2:k<(bI agent m).length:=by omega
    rw[bY hk2]
    have h2:=rp _ (List.getElem_mem hk2)
    have h3:=hV.jw h2
    exact⟨⟨by omega,by omega⟩,h2,by omega,by simp only[I64];omega,IH hk2 _ (oV hk2).symm⟩
  · have e:fR agent (bI agent m) k=eO agent m:=by rw[eO,show k=(bI agent m).length by omega]
    rw[e]
    have hl2:=sd hV m
    have hn:=iC hV m
    refine⟨by omega,by simp only[j9,List.length_mergeSort];omega,?_⟩
    rw[show fg (j9 (eO agent m)).1=aR agent m from rfl]
    refine aw.up ((aR agent m).length+redex.outer.length) (fun s=>s.1 - 97) (fun k t=>(97+(k:Int),t)) (fun _ _=>by simp only;omega) (fun k t=>t=en redex.outer k∧t.length≤(aR agent m).length) [] (by simp) ⟨by simp[en],by simp⟩ ?_
    rintro k _ K hk ⟨rfl,hle⟩ IH
    dsimp only
    have hf:=pd redex.outer (k:=k) (by omega)
    have hzl:=po (k:=k) (by omega)
    refine⟨fun h1=>?_,fun h1=>?_⟩
    · have hk2:k<(aR agent m).length+redex.outer.length:=by omega
      rw[wE,show (97:Int)+(k:Int)+1=97+((k+1:Nat):Int) by omega]
      refine⟨by simp only[List.length_cons,List.length_nil];omega,by simp only[la];omega,fun h4=>⟨by omega,IH hk2 _ ⟨?_,hle⟩⟩,fun h4=>⟨by omega,by omega,IH hk2 _ ⟨?_,?_⟩⟩⟩
      · rw[iQ,if_pos h4]
      · rw[iQ,if_neg h4]
      · simp only[List.length_append,List.length_cons,List.length_nil];omega
    · refine⟨by simp only[I64];omega,?_⟩
      have hnn:(en redex.outer k).length=(aR agent m).length:=Nat.le_antisymm hle (Int.ofNat_le.1 (Int.not_lt.1 h1))
      rw[eg,su hk hnn]
      refine Prod.ext rfl (Prod.ext rfl ?_)
      simp only[decide_eq_decide]
      omega
theorem kp {b:Big} {m:Match} {l:Int}:l ∈ eO b m↔∃ x:Int,(0≤x∧x<b.nodes.length)∧ll 3 b m x=true∧l ∈ (at' b.nodes x).links:=by
  simp only[eO,fR,List.take_length,List.mem_flatten,List.mem_map]
  constructor
  · rintro⟨_,⟨x,hx,rfl⟩,hl⟩
    have:=rO.1 hx
    exact⟨x,this.1,this.2,hl⟩
  · rintro⟨x,h1,h2,h3⟩
    exact⟨_,⟨x,rO.2 ⟨h1,h2⟩,rfl⟩,h3⟩
noncomputable def fZ (sig:Sig) (redex agent:Big) (m:Match):List Int × List Str × Bool:=if bE sig redex agent && ee redex agent m then (if (aR agent m).length+redex.outer.length≤16 then (aR agent m,dR redex.outer (aR agent m).length,true) else ([],[],false)) else ([],[],false)
theorem nn {sig:Sig} {redex agent:Big} {m:Match} (hs:ec sig redex agent m) (h:(bE sig redex agent && ee redex agent m)=true):dI redex agent m:=by
  simp only[Bool.and_eq_true] at h
  have hp:=eD h.1
  exact⟨⟨sig,hp.a⟩,hp.r.outer,hs.2.2.1⟩
-- impl.fZ is not in this seat
abbrev eG (agent:Big) (m:Match):Prop:=oX agent∧m.nodes.length≤1048576
abbrev bM (agent:Big) (m:Match):List Bool:=(List.range agent.nodes.length).map fun i:Nat=>ll 3 agent m i
def ff (agent:Big) (m:Match) (Z:(List Bool)→Prop):Prop:=
  aw (σ:=Int × (List Bool)) (fun (i15,l16) K20=>∀ len21:Int,len21=(agent.nodes.length:Int)→∀ c23:Bool,c23=decide (i15<len21)→((c23=true→(m.nodes.length≤1048576)∧∀ r26:Bool,r26=k7 m.nodes i15→((r26=true→(l16.length+1≤1073741824)∧∀ l28:List Bool,l28=l16++[false]→(I64 (i15+1))∧∀ v38:Int,v38=i15+1→K20 (v38,l28))∧(r26=false→(gO agent m i15)∧∀ r41:Bool,r41=gh agent m i15→(l16.length+1≤1073741824)∧∀ l43:List Bool,l43=l16++[r41]→(I64 (i15+1))∧∀ v53:Int,v53=i15+1→K20 (v53,l43))))∧(c23=false→Z l16))) (0,([]:List Bool))
theorem rb (agent:Big) (m:Match) (h:eG agent m):ff agent m (fun y=>y=bM agent m):=by
  unfold ff
  obtain⟨h1,h2⟩:=h
  have h8:=h1.1
  simp only[forall_eq,decide_eq_true_eq,decide_eq_false_iff_not]
  refine aw.upL agent.nodes.length (fun k t=>t=(List.range k).map fun i:Nat=>ll 3 agent m i) [] rfl ?_
  rintro k _ K hk rfl IH
  dsimp only
  have hl:((List.range k).map fun i:Nat=>ll 3 agent m i).length=k:=by simp
  refine⟨fun h3=>⟨h2,fun h4=>⟨by omega,by simp only[I64];omega,IH (by omega) _ ?_⟩,fun h4=>⟨⟨h1,by omega,h2⟩,by omega,by simp only[I64];omega,IH (by omega) _ ?_⟩⟩,fun h3=>?_⟩
  · rw[List.range_succ,List.map_append];simp[ll,h4]
  · rw[List.range_succ,List.map_append];simp[ll,h4]
  · rw[bM,show agent.nodes.length=k by omega]
def nh (b:Big) (l:Int) (kind:List Bool) (is:Bool) (k:Nat):Int:=((((bp b l).take k).filter fun p=>at' kind p.1 == is).length:Int)
theorem qW {b:Big} {l:Int} {kind:List Bool} {is:Bool} {k:Nat} (h:k<(bp b l).length):nh b l kind is (k+1)=nh b l kind is k+if (at' kind (bp b l)[k].1 == is)=true then 1 else 0:=by
  rw[nh,List.take_succ_eq_append_getElem h,List.filter_append,List.length_append,nh]
  by_cases hc:(at' kind (bp b l)[k].1 == is)=true<;>simp[hc]
theorem DA (b:Big) (l:Int) (kind:List Bool) (is:Bool) (k:Nat):0≤nh b l kind is k∧nh b l kind is k≤k:=by
  have h1:=List.length_filter_le (fun p:Int × Int=>at' kind p.1 == is) ((bp b l).take k)
  have h2:((bp b l).take k).length≤k:=by simp;omega
  rw[nh]
  omega
theorem CQ {b:Big} (h:kR b) (l:Int):(bp b l).length≤1048576:=by
  have:=eS h.2.1 l b.nodes.length (Nat.le_refl _)
  have h1:=h.1
  rw[bp]
  omega
abbrev nz (b:Big) (_:Int) (kind:List Bool) (_:Bool):Prop:=kR b∧kind.length=b.nodes.length
abbrev jJ (b:Big) (l:Int) (kind:List Bool) (is:Bool):Int:=nh b l kind is (bp b l).length
def m0 (b:Big) (link:Int) (kind:List Bool) (is:Bool) (Z:Int→Prop):Prop:=
  (eU b link)∧∀ r5:List (Int × Int),r5=fV b link→aw (σ:=Int × Int) (fun (count9,i10) K13=>∀ len14:Int,len14=(r5.length:Int)→∀ c16:Bool,c16=decide (i10<len14)→((c16=true→(0≤i10∧i10<r5.length)∧∀ x19:Int × Int,x19=at' r5 i10→(0≤x19.1∧x19.1<kind.length)∧∀ x23:Bool,x23=at' kind x19.1→∀ c25:Bool,c25=(x23 == is)→((c25=true→(I64 (count9+1))∧∀ v28:Int,v28=count9+1→(I64 (i10+1))∧∀ v32:Int,v32=i10+1→K13 (v28,v32))∧(c25=false→(I64 (i10+1))∧∀ v35:Int,v35=i10+1→K13 (count9,v35))))∧(c16=false→Z count9))) (0,0)
theorem De (b:Big) (l:Int) (kind:List Bool) (is:Bool) (h:nz b l kind is):m0 b l kind is (fun y=>y=jJ b l kind is):=by
  unfold m0
  obtain⟨h1,h2⟩:=h
  have hp:=CQ h1 l
  simp only[forall_eq,decide_eq_true_eq,decide_eq_false_iff_not,fV]
  refine⟨h1,aw.upR (bp b l).length (fun k c=>c=nh b l kind is k) 0 rfl ?_⟩
  rintro k _ K hk rfl IH
  dsimp only
  have hc:=DA b l kind is k
  refine⟨fun h3=>?_,fun h3=>?_⟩
  · have hk2:k<(bp b l).length:=by omega
    rw[bY hk2]
    obtain⟨j,j1,j2,_⟩:=iU.1 (List.getElem_mem hk2)
    refine⟨⟨by omega,by omega⟩,⟨by omega,by omega⟩,fun h4=>⟨by simp only[I64];omega,by simp only[I64];omega,IH hk2 _ ?_⟩,fun h4=>⟨by simp only[I64];omega,IH hk2 _ ?_⟩⟩
    · rw[qW hk2,if_pos h4]
    · rw[qW hk2,if_neg (by rw[h4];simp)];omega
  · rw[jJ,show (bp b l).length=k by omega]
theorem Fq:∀ n:Fin 26,(fun i:Nat=>(([97,98,99,100,101,102,103,104,105,106,107,108,109,110,111,112,113,114,115,116,117,118,119,120,121,122]:Str).take (i+1)).drop i=fB (97+(i:Int))) n.val:=by
  simp only
  decide
abbrev kM (k:Int):Prop:=0≤k∧k<26
abbrev lR (k:Int):Str:=fB (97+k)
def js (link:Int) (Z:Str→Prop):Prop:=
  (I64 (link+1))∧∀ v3:Int,v3=link+1→(0≤link∧link≤v3∧v3≤[97,98,99,100,101,102,103,104,105,106,107,108,109,110,111,112,113,114,115,116,117,118,119,120,121,122].length)∧∀ s6:Str,s6=([97,98,99,100,101,102,103,104,105,106,107,108,109,110,111,112,113,114,115,116,117,118,119,120,121,122].take v3.toNat).drop link.toNat→Z s6
theorem xn (k:Int) (h:kM k):js k (fun y=>y=lR k):=by
  unfold js
  obtain⟨h1,h2⟩:=h
  obtain⟨n,rfl⟩:∃ n:Nat,k=n:=⟨k.toNat,by omega⟩
  simp only[forall_eq,List.length_cons,List.length_nil]
  refine⟨by simp only[I64];omega,⟨by omega,by omega,by omega⟩,?_⟩
  rw[show ((n:Int)+1).toNat=n+1 by omega,Int.toNat_natCast]
  exact Fq ⟨n,by omega⟩
theorem tQ {l:List Str} {s:Str}:dQ l s<0↔s ∉ l:=by
  rw[dQ]
  split
  · rename_i h
    exact iff_of_false (by omega) fun h2=>h2 h
  · rename_i h
    exact iff_of_true (by omega) h
def ng (agent:Big) (m:Match) (k:Nat):List Int:=((List.range k).map fun i:Nat=>(i:Int)).filter fun l=>decide (0<jJ agent l (bM agent m) true)
theorem ru (agent:Big) (m:Match) (k:Nat):ng agent m (k+1)=if 0<jJ agent k (bM agent m) true then ng agent m k++[(k:Int)] else ng agent m k:=by
  rw[ng,List.range_succ,List.map_append,List.filter_append]
  by_cases h:0<jJ agent k (bM agent m) true<;>simp[h,ng]
theorem BZ (agent:Big) (m:Match) (k:Nat):(ng agent m k).length≤k:=by
  have:=List.length_filter_le (fun l=>decide (0<jJ agent l (bM agent m) true)) ((List.range k).map fun i:Nat=>(i:Int))
  simpa[ng] using this
theorem EF {agent:Big} {m:Match} {l:Int}:0<jJ agent l (bM agent m) true↔l ∈ eO agent m:=by
  rw[jJ,nh,List.take_length,kp]
  have e:∀ x:Int,0≤x→x<agent.nodes.length→at' (bM agent m) x=ll 3 agent m x:=by
    intro x h0 h1
    obtain⟨n,rfl⟩:∃ n:Nat,x=n:=⟨x.toNat,by omega⟩
    rw[bY (by simp;omega)]
    simp
  constructor
  · intro h
    have h1:0<((bp agent l).filter fun p=>at' (bM agent m) p.1 == true).length:=by omega
    obtain⟨p,hp⟩:=List.exists_mem_of_length_pos h1
    rw[List.mem_filter] at hp
    obtain⟨j,j1,j2,j3,j4,j5⟩:=iU.1 hp.1
    have h2:=hp.2
    rw[j2,e _ (by omega) (by omega),beq_iff_eq] at h2
    refine⟨j,⟨by omega,by omega⟩,h2,?_⟩
    obtain⟨q,hq⟩:∃ q:Nat,p.2=q:=⟨p.2.toNat,by omega⟩
    rw[hq,bY (by omega)] at j5
    rw[← j5]
    exact List.getElem_mem _
  · rintro⟨x,⟨h0,h1⟩,h2,h3⟩
    obtain⟨n,rfl⟩:∃ n:Nat,x=n:=⟨x.toNat,by omega⟩
    obtain⟨q,hq,he⟩:=List.getElem_of_mem h3
    have hm:((n:Int),(q:Int)) ∈ (bp agent l).filter fun p=>at' (bM agent m) p.1 == true:=by
      rw[List.mem_filter]
      refine⟨iU.2 ⟨n,by omega,rfl,by simp,by simpa using hq,?_⟩,?_⟩
      · simp only
        rw[bY hq,he]
      · simp only[e _ h0 h1,h2,beq_self_eq_true]
    have:=List.length_pos_of_mem hm
    omega
theorem CF {sig:Sig} {agent:Big} (hV:bQ sig agent) (m:Match) {k:Nat} (hk:(k:Int)=agent.edges+agent.outer.length):ng agent m k=aR agent m:=by
  obtain⟨s1,s2⟩:=gV (eO agent m)
  refine zV ?_ s1 fun x=>?_
  · refine List.Pairwise.sublist List.filter_sublist ?_
    rw[List.pairwise_map]
    exact List.pairwise_lt_range.imp fun h=>by omega
  · rw[show x ∈ aR agent m↔x ∈ eO agent m from s2 x]
    simp only[ng,List.mem_filter,decide_eq_true_eq,EF,List.mem_map,List.mem_range]
    refine⟨fun h=>h.2,fun h=>⟨?_,h⟩⟩
    obtain⟨y,hy,_,hl⟩:=kp.1 h
    have:=hV.ox hy x hl
    exact⟨x.toNat,by omega,by omega⟩
abbrev km (redex agent:Big) (m:Match):Prop:=dI redex agent m
abbrev iw (redex agent:Big) (m:Match):List Int × List Str × Bool:=if (aR agent m).length+redex.outer.length≤16 then (aR agent m,dR redex.outer (aR agent m).length,true) else ([],[],false)
def ji (redex:Big) (agent:Big) (m:Match) (Z:((List Int) × (List Str) × Bool)→Prop):Prop:=
  (eG agent m)∧∀ r9:List Bool,r9=bM agent m→aw (σ:=Int × (List Int)) (fun (link32,l33) K39=>∀ len40:Int,len40=(agent.outer.length:Int)→(I64 (agent.edges+len40))∧∀ v43:Int,v43=agent.edges+len40→∀ c45:Bool,c45=decide (link32<v43)→((c45=true→(nz agent link32 r9 true)∧∀ r48:Int,r48=jJ agent link32 r9 true→∀ c49:Bool,c49=decide (0<r48)→((c49=true→(l33.length+1≤1073741824)∧∀ l52:List Int,l52=l33++[link32]→(I64 (link32+1))∧∀ v64:Int,v64=link32+1→K39 (v64,l52))∧(c49=false→(I64 (link32+1))∧∀ v67:Int,v67=link32+1→K39 (v67,l33))))∧(c45=false→∀ len73:Int,len73=(l33.length:Int)→∀ len75:Int,len75=(redex.outer.length:Int)→(I64 (len73+len75))∧∀ v78:Int,v78=len73+len75→∀ c80:Bool,c80=decide (16<v78)→((c80=true→Z (([]:List Int),([]:List Str),false))∧(c80=false→aw (σ:=Int × (List Str)) (fun (i100,l101) K106=>∀ len107:Int,len107=(l101.length:Int)→∀ len109:Int,len109=(l33.length:Int)→∀ c111:Bool,c111=decide (len107<len109)→((c111=true→(kM i100)∧∀ r114:Str,r114=lR i100→([122].length+r114.length<4611686018427387904)∧∀ v116:Str,v116=[122]++r114→(oT redex.outer v116)∧∀ r119:Int,r119=E0 redex.outer v116→∀ c120:Bool,c120=decide (r119<0)→((c120=true→(l101.length+1≤1073741824)∧∀ l123:List Str,l123=l101++[v116]→(I64 (i100+1))∧∀ v134:Int,v134=i100+1→K106 (v134,l123))∧(c120=false→(I64 (i100+1))∧∀ v137:Int,v137=i100+1→K106 (v137,l101))))∧(c111=false→Z (l33,l101,true)))) (0,([]:List Str))))))) (0,([]:List Int))
theorem wM (redex agent:Big) (m:Match) (h:km redex agent m):ji redex agent m (fun y=>y=iw redex agent m):=by
  unfold ji
  obtain⟨⟨sig,hV⟩,ho,hm⟩:=h
  have h8:=hV.len
  have he:=hV.edges
  have hou:=hV.outer
  have hn:=iC hV m
  simp only[forall_eq,decide_eq_true_eq,decide_eq_false_iff_not]
  refine⟨⟨hV.om,hm⟩,?_⟩
  refine aw.upL (agent.edges+agent.outer.length).toNat (fun k t=>t=ng agent m k) [] rfl ?_
  rintro k _ K hk rfl IH
  dsimp only
  have hl:=BZ agent m k
  refine⟨by simp only[I64];omega,fun h1=>⟨⟨hV.nX,by simp⟩,fun h2=>⟨by omega,by simp only[I64];omega,IH (by omega) _ ?_⟩,fun h2=>⟨by simp only[I64];omega,IH (by omega) _ ?_⟩⟩,fun h1=>?_⟩
  · rw[ru,if_pos h2]
  · rw[ru,if_neg h2]
  · rw[CF hV m (k:=k) (by omega)]
    refine⟨by simp only[I64];omega,fun h2=>?_,fun h2=>?_⟩
    · rw[iw,if_neg (by omega)]
    · refine aw.upL ((aR agent m).length+redex.outer.length) (fun k t=>t=en redex.outer k∧t.length≤(aR agent m).length) [] ⟨by simp[en],by simp⟩ ?_
      rintro k _ K hk ⟨rfl,hle⟩ IH
      dsimp only
      have hf:=pd redex.outer (k:=k) (by omega)
      have hzl:(lR (k:Int)).length≤4:=po (k:=k) (by omega)
      refine⟨fun h3=>?_,fun h3=>?_⟩
      · have hk2:k<(aR agent m).length+redex.outer.length:=by omega
        rw[show [122]++lR (k:Int)=ga k from wE k]
        refine⟨⟨by omega,by omega⟩,by simp only[List.length_cons,List.length_nil];omega,by simp only[oT];omega,fun h4=>⟨by omega,by simp only[I64];omega,IH hk2 _ ⟨?_,?_⟩⟩,fun h4=>⟨by simp only[I64];omega,IH hk2 _ ⟨?_,hle⟩⟩⟩
        · rw[iQ,if_neg (tQ.1 h4)]
        · simp only[List.length_append,List.length_cons,List.length_nil];omega
        · rw[iQ,if_pos (Decidable.not_not.1 fun h5=>h4 (tQ.2 h5))]
      · have hnn:(en redex.outer k).length=(aR agent m).length:=Nat.le_antisymm hle (Int.ofNat_le.1 (Int.not_lt.1 h3))
        rw[iw,if_pos (by omega),su hk hnn]
noncomputable abbrev c7 (sig:Sig) (redex agent:Big) (m:Match):=fZ sig redex agent m
abbrev fK (sig:Sig) (redex agent:Big) (m:Match):Prop:=ec sig redex agent m
def eF (sig:List Control) (redex:Big) (agent:Big) (m:Match) (Z:((List Int) × (List Str) × Bool)→Prop):Prop:=
  (lI sig redex agent m)∧∀ r7:Bool,r7=m7 sig redex agent m→((r7=true→(km redex agent m)∧∀ r15:(List Int) × (List Str) × Bool,r15=iw redex agent m→Z (r15.1,r15.2.1,r15.2.2))∧(r7=false→Z (([]:List Int),([]:List Str),false)))
theorem qx (sig:Sig) (redex agent:Big) (m:Match) (h:fK sig redex agent m):eF sig redex agent m (fun y=>y=c7 sig redex agent m):=by
  unfold eF
  simp only[forall_eq]
  refine⟨h,fun h1=>⟨nn h h1,?_⟩,fun h1=>?_⟩
  · rw[c7,fZ,if_pos h1]
  · rw[c7,fZ,if_neg (by rw[show (bE sig redex agent && ee redex agent m)=false from h1];simp)]
end Go.Ab.Vg
/- Parts of agents: pure conditions of the functions of program and reference. -/
namespace Go.Ab.Vg
set_option linter.unusedSimpArgs false
set_option linter.unusedVariables false
abbrev eK (l:List Int) (_:Int):Prop:=l.length≤1048576
def aW (l:List Int) (s:Int):Int:=if s ∈ l then (l.idxOf s:Int) else -1
theorem Ck {l:List Int} {s:Int} (h:∀ j<l.length,at' l (j:Int) ≠ s):aW l s = -1:=by
  rw[aW,if_neg]
  intro hm
  obtain⟨j,hj,he⟩:=List.getElem_of_mem hm
  exact h j hj (by rw[bY hj];exact he)
theorem nV {l:List Int} {s:Int} {k:Nat} (hk:k<l.length) (h:∀ j<k,at' l (j:Int) ≠ s) (he:at' l (k:Int)=s):aW l s=k:=by
  rw[bY hk] at he
  have hm:s ∈ l:=he ▸ List.getElem_mem hk
  rw[aW,if_pos hm]
  have h1:l.idxOf s<l.length:=List.idxOf_lt_length_iff.2 hm
  have h2:l[l.idxOf s]=s:=List.getElem_idxOf h1
  have h3:¬ l.idxOf s<k:=fun hlt=>h _ hlt (by rw[bY h1];exact h2)
  have h4:¬ k<l.idxOf s:=fun hlt=>by
    have:=List.not_of_lt_findIdx (p:=(· == s)) (xs:=l) hlt
    simp[he] at this
  omega
theorem dg (l:List Int) (s:Int) : -1≤aW l s∧aW l s<l.length∧(0≤aW l s↔s ∈ l):=by
  rw[aW]
  split
  · rename_i h
    have h1:l.idxOf s<l.length:=List.idxOf_lt_length_iff.2 h
    exact⟨by omega,by omega,fun _=>h,fun _=>by omega⟩
  · rename_i h
    exact⟨by omega,by omega,fun h2=>by omega,fun h2=>absurd h2 h⟩
theorem mJ {l:List Int} {s:Int} (h:s ∈ l):at' l (aW l s)=s:=by
  rw[aW,if_pos h,bY (List.idxOf_lt_length_iff.2 h)]
  exact List.getElem_idxOf _
theorem BB (l:List Str) (s:Str) : -1≤dQ l s∧dQ l s<l.length:=by
  rw[dQ]
  split
  · rename_i h
    have h1:l.idxOf s<l.length:=List.idxOf_lt_length_iff.2 h
    omega
  · omega
def m5 (s:List Int) (v_:Int) (Z:Int→Prop):Prop:=
  ∀ cf:Int,cf=(s.length:Int)→aw (σ:=Int) (fun v6 K9=>∀ c10:Bool,c10=decide (v6<cf)→((c10=true→(0≤v6∧v6<s.length)∧∀ x13:Int,x13=at' s v6→∀ c15:Bool,c15=decide (v_=x13)→((c15=true→Z v6)∧(c15=false→(I64 (v6+1))∧∀ v18:Int,v18=v6+1→K9 (v18))))∧(c10=false→Z (-1)))) (0)
theorem BM (l:List Int) (s:Int) (h:eK l s):m5 l s (fun y=>y=aW l s):=by
  unfold m5
  rintro _ rfl
  refine aw.up1 l.length (fun k=>∀ j<k,at' l (j:Int) ≠ s) (by simp) ?_
  rintro k K hk hI IH
  simp only[forall_eq,decide_eq_true_eq,decide_eq_false_iff_not,I64]
  refine⟨fun h1=>⟨by omega,fun h2=>(nV (by omega) hI h2.symm).symm,fun h2=>⟨by omega,IH (by omega) fun j hj=>?_⟩⟩,fun h1=>?_⟩
  · rcases Nat.lt_or_ge j k with h3 | h3
    · exact hI j h3
    · rw[show j=k by omega];exact fun h=>h2 h.symm
  · rw[Ck fun j hj=>hI j (by omega)]
def bH (p:Int→Bool) (n:Nat):List Int:=((List.range n).map fun i:Nat=>(i:Int)).filter p
def er (p:Int→Bool) (n:Nat):Int:=((bH p n).length:Int)
section
variable (p:Int→Bool)
theorem pv {n:Nat} (h:p n=true):bH p (n+1)=bH p n++[(n:Int)]:=by simp[bH,List.range_succ,h]
theorem sL {n:Nat} (h:p n=false):bH p (n+1)=bH p n:=by simp[bH,List.range_succ,h]
theorem w7 {n:Nat} (h:p n=true):er p (n+1)=er p n+1:=by rw[er,pv p h,er];simp
theorem Fu {n:Nat} (h:p n=false):er p (n+1)=er p n:=by rw[er,sL p h,er]
theorem cx {n:Nat} {x:Int}:x ∈ bH p n↔(0≤x∧x<n)∧p x=true:=by
  simp only[bH,List.mem_filter,List.mem_map,List.mem_range]
  exact⟨fun ⟨⟨i,h1,h2⟩,h3⟩=>⟨by omega,h3⟩,fun ⟨h1,h2⟩=>⟨⟨x.toNat,by omega,by omega⟩,h2⟩⟩
theorem mA (n:Nat):(bH p n).length≤n:=by
  have:=List.length_filter_le p ((List.range n).map fun i:Nat=>(i:Int))
  simpa[bH] using this
theorem qG (n:Nat):0≤er p n∧er p n≤n:=by
  have:=mA p n
  rw[er];omega
theorem D6 (n:Nat):(bH p n).Pairwise (·<·):=by
  refine List.Pairwise.sublist List.filter_sublist ?_
  rw[List.pairwise_map]
  exact List.pairwise_lt_range.imp fun h=>by omega
theorem kn {n:Nat} {x:Int} (h:x ∈ bH p n):aW (bH p n) x=er p x.toNat:=by
  induction n with
  | zero=>simp[bH] at h
  | succ n ih=>
    cases hp:p n
    · rw[sL p hp] at h ⊢;exact ih h
    · rw[pv p hp] at h ⊢
      by_cases hm:x ∈ bH p n
      · rw[← ih hm,aW,aW,if_pos h,if_pos hm,List.idxOf_append,if_pos hm]
      · have hx:x=n:=by simpa[hm] using h
        subst hx
        rw[aW,if_pos h,List.idxOf_append,if_neg hm]
        simp[er]
theorem rX {n:Nat} {x:Int} (h:x ∉ bH p n):aW (bH p n) x = -1:=if_neg h
theorem p8 {p q:Int→Bool} {n:Nat} (h:∀ x:Int,0≤x→x<n→p x=q x):bH p n=bH q n:=by
  refine List.filter_congr fun x hx=>?_
  simp only[List.mem_map,List.mem_range] at hx
  obtain⟨i,h1,rfl⟩:=hx
  exact h _ (by omega) (by omega)
end
def fb (b:Big) (edges:List Int) (outer:List Str) (place:Int→Int) (name:Int→Str) (k:Int):aj:=
  ⟨(at' b.nodes k).control,place (at' b.nodes k).parent,(at' b.nodes k).links.map fun l=>if 0≤aW edges l then aW edges l else edges.length+dQ outer (name l)⟩
def mg (b:Big) (nodes edges:List Int) (outer:List Str) (place:Int→Int) (_:Int→Prop) (name:Int→Str) (_:Int→Prop):Big:=
  ⟨b.roots,nodes.map (fb b edges (bo outer) place name),[],edges.length,bo outer,[]⟩
structure pK (b:Big) (nodes edges:List Int) (outer:List Str) (place:Int→Int) (Dp:Int→Prop) (name:Int→Str) (Dn:Int→Prop):Prop where
  n:nodes.length≤1048576
  e:edges.length≤1048576
  o:outer.length≤1048576
  i:∀ k ∈ nodes,0≤k∧k<b.nodes.length
  p:∀ k ∈ nodes,Dp (at' b.nodes k).parent
  l:∀ k ∈ nodes,(at' b.nodes k).links.length≤1048576
  d:∀ k ∈ nodes,∀ l ∈ (at' b.nodes k).links,l ∉ edges→Dn l
def oR (b:Big) (nodes:List Int) (edges:List Int) (outer:List Str) (f4:Int→Int) (D4:Int→Prop) (f5:Int→Str) (D5:Int→Prop) (Z:Big→Prop):Prop:=
  ∀ cK:Int,cK=(edges.length:Int)→(gq outer)∧∀ r9:List Str,r9=bo outer→∀ len19:Int,len19=(nodes.length:Int)→aw (σ:=Int × (List aj)) (fun (v40,l41) K48=>∀ c49:Bool,c49=decide (v40<len19)→((c49=true→(0≤v40∧v40<nodes.length)∧∀ x52:Int,x52=at' nodes v40→(0≤x52∧x52<b.nodes.length)∧∀ x60:aj,x60=at' b.nodes x52→(0≤x52∧x52<b.nodes.length)∧∀ x63:aj,x63=at' b.nodes x52→(D4 x60.parent)∧∀ r67:Int,r67=f4 x60.parent→(0≤x52∧x52<b.nodes.length)∧∀ x80:aj,x80=at' b.nodes x52→∀ len82:Int,len82=(x80.links.length:Int)→aw (σ:=Int × (List Int)) (fun (v106,l107) K115=>∀ c116:Bool,c116=decide (v106<len82)→((c116=true→(0≤v106∧v106<x80.links.length)∧∀ x119:Int,x119=at' x80.links v106→(eK edges x119)∧∀ r122:Int,r122=aW edges x119→∀ c123:Bool,c123=decide (0≤r122)→((c123=true→(l107.length+1≤1073741824)∧∀ l126:List Int,l126=l107++[r122]→(I64 (v106+1))∧∀ v141:Int,v141=v106+1→K115 (v141,l126))∧(c123=false→(D5 x119)∧∀ r144:Str,r144=f5 x119→(ir r9 r144)∧∀ r146:Int,r146=dQ r9 r144→(I64 (cK+r146))∧∀ v148:Int,v148=cK+r146→(l107.length+1≤1073741824)∧∀ l151:List Int,l151=l107++[v148]→(I64 (v106+1))∧∀ v166:Int,v166=v106+1→K115 (v166,l151))))∧(c116=false→(l41.length+1≤1073741824)∧∀ l169:List aj,l169=l41++[(aj.mk x60.control r67 l107)]→(I64 (v40+1))∧∀ v183:Int,v183=v40+1→K48 (v183,l169)))) (0,([]:List Int)))∧(c49=false→Z (Big.mk b.roots l41 ([]:List Int) cK r9 ([]:List aA))))) (0,([]:List aj))
theorem Ew (b:Big) (nodes edges:List Int) (outer:List Str) (f4:Int→Int) (D4:Int→Prop) (f5:Int→Str) (D5:Int→Prop) (h:pK b nodes edges outer f4 D4 f5 D5):oR b nodes edges outer f4 D4 f5 D5 (fun y=>y=mg b nodes edges outer f4 D4 f5 D5):=by
  unfold oR
  obtain⟨h1,h2,h3,h4,h5,h6,h7⟩:=h
  have hs:=qq outer
  simp only[forall_eq,decide_eq_true_eq,decide_eq_false_iff_not]
  refine⟨by omega,?_⟩
  refine aw.upL nodes.length (fun k t=>t=(nodes.take k).map (fb b edges (bo outer) f4 f5)) [] (by simp) ?_
  rintro k _ K hk rfl IH
  dsimp only
  have hkl:((nodes.take k).map (fb b edges (bo outer) f4 f5)).length=k:=by simp;omega
  refine⟨fun hc=>?_,fun hc=>?_⟩
  · have hk2:k<nodes.length:=by omega
    rw[bY hk2]
    have hm:=List.getElem_mem hk2
    have e0:(nodes.take (k+1)).map (fb b edges (bo outer) f4 f5)=(nodes.take k).map (fb b edges (bo outer) f4 f5)++[fb b edges (bo outer) f4 f5 nodes[k]]:=by rw[List.take_succ_eq_append_getElem hk2,List.map_append];rfl
    have hi:=h4 _ hm
    have hl6:=h6 _ hm
    have hd:=h7 _ hm
    refine⟨⟨by omega,by omega⟩,hi,hi,h5 _ hm,hi,?_⟩
    refine aw.upL (at' b.nodes nodes[k]).links.length (fun j t=>t=((at' b.nodes nodes[k]).links.take j).map (fun l=>if 0≤aW edges l then aW edges l else edges.length+dQ (bo outer) (f5 l))) [] (by simp) ?_
    rintro j _ K2 hj rfl IH2
    dsimp only
    generalize hL:(at' b.nodes nodes[k]).links=L at *
    refine⟨fun hc2=>?_,fun hc2=>?_⟩
    · have hj2:j<L.length:=by omega
      rw[bY hj2]
      have e:=List.take_succ_eq_append_getElem hj2
      have hb:=dg edges L[j]
      have hsl:=BB (bo outer) (f5 L[j])
      refine⟨⟨by omega,by omega⟩,by simpa using h2,fun h8=>⟨by simp;omega,by simp only[I64];omega,IH2 hj2 _ ?_⟩,fun h8=>⟨hd _ (List.getElem_mem hj2) (fun hmem=>h8 (hb.2.2.2 hmem)),by simp only[ir];omega,by simp only[I64];omega,by simp;omega,by simp only[I64];omega,IH2 hj2 _ ?_⟩⟩
      · rw[e,List.map_append];simp[h8]
      · rw[e,List.map_append];simp[h8]
    · refine⟨by omega,by simp only[I64];omega,IH hk2 _ ?_⟩
      rw[e0,fb,hL,show j=L.length by omega,List.take_length]
  · rw[mg,show k=nodes.length by omega,List.take_length]
abbrev qX (l:Int):Str:=fB (97+l)
abbrev nr (l:List aA):Prop:=l.length≤1048576
abbrev we (l:List aA):List aA:=l
def mB (s:List aA) (Z:(List aA)→Prop):Prop:=
  ∀ c2:Bool,(c2=true→s=[])→((c2=true→Z [])∧(c2=false→(([]:List aA).length+s.length≤1073741824)∧∀ l7:List aA,l7=([]:List aA)++s→Z l7))
theorem CR (l:List aA) (h:nr l):mB l (fun y=>y=we l):=by
  unfold mB
  intro c hc
  refine⟨fun h1=>(hc h1).symm,fun _=>⟨by simp;omega,?_⟩⟩
  rintro _ rfl
  simp
theorem oG {α:Type} [Inhabited α] {l:List α} {k:Nat} (h:k<l.length):l.take (k+1)=l.take k++[at' l (k:Int)]:=by rw[bY h];exact List.take_succ_eq_append_getElem h
structure ou (b:Big):Prop where
  n:b.nodes.length≤1048576
  s:b.sites.length≤1048576
  o:b.outer.length≤1048576
  i:b.inner.length≤1048576
  l:∀ k,k<b.nodes.length→(at' b.nodes (k:Int)).links.length≤1048576
abbrev vD (b:Big):Big:=b
def qF (b:Big) (Z:Big→Prop):Prop:=
  (kU b.sites)∧∀ r7:List Int,r7=sH b.sites→(kS b.outer)∧∀ r10:List Str,r10=pg b.outer→(nr b.inner)∧∀ r13:List aA,r13=we b.inner→∀ len204:Int,len204=(b.nodes.length:Int)→aw (σ:=Int × (List aj)) (fun (v237,l238) K249=>∀ c250:Bool,c250=decide (v237<len204)→((c250=true→(0≤v237∧v237<b.nodes.length)∧∀ x253:aj,x253=at' b.nodes v237→(kU x253.links)∧∀ r275:List Int,r275=sH x253.links→(l238.length+1≤1073741824)∧∀ l278:List aj,l278=l238++[(aj.mk x253.control x253.parent r275)]→(I64 (v237+1))∧∀ v329:Int,v329=v237+1→K249 (v329,l278))∧(c250=false→Z (Big.mk b.roots l238 r7 b.edges r10 r13)))) (0,([]:List aj))
theorem Fg (b:Big) (h:ou b):qF b (fun y=>y=vD b):=by
  unfold qF
  obtain⟨h1,h2,h3,h4,h5⟩:=h
  simp only[forall_eq,decide_eq_true_eq,decide_eq_false_iff_not,sH,pg,we]
  refine⟨h2,h3,h4,?_⟩
  refine aw.upL b.nodes.length (fun k t=>t=b.nodes.take k) [] (by simp) ?_
  rintro k _ K hk rfl IH
  dsimp only
  refine⟨fun hc=>?_,fun hc=>?_⟩
  · have hk2:k<b.nodes.length:=by omega
    exact⟨⟨by omega,by omega⟩,h5 k hk2,by simp;omega,by simp only[I64];omega,IH hk2 _ (oG hk2).symm⟩
  · rw[show k=b.nodes.length by omega,List.take_length]
theorem bQ.Gl {sig:Sig} {b:Big} (h:bQ sig b):ou b:=
  ⟨by have:=h.len;omega,by have:=h.slen;omega,by have:=h.outer;omega,by have:=h.inner;omega,fun k hk=>by have:=h.jw (i:=k) (by omega);omega⟩
def lu (sig:Sig) (b:Big):Big × Bool:=if fx sig b then (b,true) else (⟨0,[],[],0,[],[]⟩,false)
abbrev iL:=lu
abbrev nC (sig:Sig) (b:Big):Prop:=bZ sig b
def mN (sig:List Control) (b:Big) (Z:(Big × Bool)→Prop):Prop:=
  (bZ sig b)∧∀ r6:Bool,r6=fx sig b→((r6=true→(ou b)∧∀ r15:Big,r15=vD b→Z (r15,true))∧(r6=false→Z ((Big.mk 0 [] [] 0 [] []),false)))
theorem CG (sig:Sig) (b:Big) (h:nC sig b):mN sig b (fun y=>y=iL sig b):=by
  unfold mN
  simp only[forall_eq,vD]
  refine⟨h,fun h1=>⟨(eX h1).Gl,?_⟩,fun h1=>?_⟩
  · rw[iL,lu,if_pos h1]
  · rw[iL,lu,if_neg (by rw[h1];simp)]
theorem fp {l:List Str} (h:l.Pairwise (·<·)):bo l=l:=BR (jO l).1 h (jO l).2
def cp (kind:Int→Bool) (links:Int→Int) (one:Bool) (b:Big) (k:Int):aj:=
  ⟨(at' b.nodes k).control,if 0≤(at' b.nodes k).parent∧kind (at' b.nodes k).parent=true then er kind (at' b.nodes k).parent.toNat else if one=true then -1 else (at' b.nodes k).parent,(at' b.nodes k).links.map links⟩
def qk (b:Big) (kind:Int→Bool) (links:Int→Int) (one:Bool):List aj:=(bH kind b.nodes.length).map (cp kind links one b)
abbrev sc (b:Big) (kind:List Bool) (is:Bool) (links:List Int) (one:Bool):List aj:=qk b (fun k=>at' kind k == is) (fun l=>at' links l) one
structure nv (b:Big) (kind:List Bool) (is:Bool) (links:List Int) (_:Bool):Prop where
  d:oX b
  k:kind.length=b.nodes.length
  l:∀ k:Int,0≤k→k<b.nodes.length→(at' b.nodes k).links.length≤1048576
  r:∀ k:Int,0≤k→k<b.nodes.length→(at' kind k == is)=true→∀ l ∈ (at' b.nodes k).links,0≤l∧l<links.length
def mX (b:Big) (kind:List Bool) (is:Bool) (links:List Int) (one:Bool) (Z:(List aj)→Prop):Prop:=
  aw (σ:=Int × (List Int) × (List aj)) (fun (i19,l20,l21) K26=>∀ len27:Int,len27=(b.nodes.length:Int)→∀ c29:Bool,c29=decide (i19<len27)→((c29=true→∀ len31:Int,len31=(l21.length:Int)→(l20.length+1≤1073741824)∧∀ l34:List Int,l34=l20++[len31]→(0≤i19∧i19<kind.length)∧∀ x45:Bool,x45=at' kind i19→∀ c47:Bool,c47 = !(x45 == is)→((c47=true→(I64 (i19+1))∧∀ v50:Int,v50=i19+1→K26 (v50,l34,l21))∧(c47=false→(0≤i19∧i19<b.nodes.length)∧∀ x53:aj,x53=at' b.nodes i19→cW (fun (J55:Bool→Prop)=>∀ c296:Bool,c296=decide (0≤x53.parent)→((c296=true→(0≤x53.parent∧x53.parent<kind.length)∧∀ x299:Bool,x299=at' kind x53.parent→∀ c301:Bool,c301=(x299 == is)→J55 (c301))∧(c296=false→J55 (false)))) (fun b58=>((b58=true→(0≤x53.parent∧x53.parent<l34.length)∧∀ x68:Int,x68=at' l34 x53.parent→aw (σ:=Int × (List Int)) (fun (k87,l88) K94=>(0≤i19∧i19<b.nodes.length)∧∀ x96:aj,x96=at' b.nodes i19→∀ len98:Int,len98=(x96.links.length:Int)→∀ c100:Bool,c100=decide (k87<len98)→((c100=true→(0≤i19∧i19<b.nodes.length)∧∀ x103:aj,x103=at' b.nodes i19→(0≤k87∧k87<x96.links.length)∧∀ x107:Int,x107=at' x96.links k87→(0≤x107∧x107<links.length)∧∀ x110:Int,x110=at' links x107→(l88.length+1≤1073741824)∧∀ l113:List Int,l113=l88++[x110]→(I64 (k87+1))∧∀ v125:Int,v125=k87+1→K94 (v125,l113))∧(c100=false→(0≤i19∧i19<b.nodes.length)∧∀ x128:aj,x128=at' b.nodes i19→(l21.length+1≤1073741824)∧∀ l133:List aj,l133=l21++[(aj.mk x96.control x68 l88)]→(I64 (i19+1))∧∀ v144:Int,v144=i19+1→K26 (v144,l34,l133)))) (0,([]:List Int)))∧(b58=false→((one=true→aw (σ:=Int × (List Int)) (fun (k162,l163) K169=>(0≤i19∧i19<b.nodes.length)∧∀ x171:aj,x171=at' b.nodes i19→∀ len173:Int,len173=(x171.links.length:Int)→∀ c175:Bool,c175=decide (k162<len173)→((c175=true→(0≤i19∧i19<b.nodes.length)∧∀ x178:aj,x178=at' b.nodes i19→(0≤k162∧k162<x171.links.length)∧∀ x182:Int,x182=at' x171.links k162→(0≤x182∧x182<links.length)∧∀ x185:Int,x185=at' links x182→(l163.length+1≤1073741824)∧∀ l188:List Int,l188=l163++[x185]→(I64 (k162+1))∧∀ v200:Int,v200=k162+1→K169 (v200,l188))∧(c175=false→(0≤i19∧i19<b.nodes.length)∧∀ x203:aj,x203=at' b.nodes i19→(l21.length+1≤1073741824)∧∀ l208:List aj,l208=l21++[(aj.mk x171.control (-1) l163)]→(I64 (i19+1))∧∀ v219:Int,v219=i19+1→K26 (v219,l34,l208)))) (0,([]:List Int)))∧(one=false→aw (σ:=Int × (List Int)) (fun (k237,l238) K244=>(0≤i19∧i19<b.nodes.length)∧∀ x246:aj,x246=at' b.nodes i19→∀ len248:Int,len248=(x246.links.length:Int)→∀ c250:Bool,c250=decide (k237<len248)→((c250=true→(0≤i19∧i19<b.nodes.length)∧∀ x253:aj,x253=at' b.nodes i19→(0≤k237∧k237<x246.links.length)∧∀ x257:Int,x257=at' x246.links k237→(0≤x257∧x257<links.length)∧∀ x260:Int,x260=at' links x257→(l238.length+1≤1073741824)∧∀ l263:List Int,l263=l238++[x260]→(I64 (k237+1))∧∀ v275:Int,v275=k237+1→K244 (v275,l263))∧(c250=false→(0≤i19∧i19<b.nodes.length)∧∀ x278:aj,x278=at' b.nodes i19→(l21.length+1≤1073741824)∧∀ l283:List aj,l283=l21++[(aj.mk x246.control x53.parent l238)]→(I64 (i19+1))∧∀ v294:Int,v294=i19+1→K26 (v294,l34,l283)))) (0,([]:List Int))))))))))∧(c29=false→Z l21))) (0,([]:List Int),([]:List aj))
theorem CM (b:Big) (kind:List Bool) (is:Bool) (links:List Int) (one:Bool) (h:nv b kind is links one):mX b kind is links one (fun y=>y=sc b kind is links one):=by
  unfold mX
  obtain⟨⟨hn,hd⟩,hk0,hl,hr⟩:=h
  simp only[forall_eq,decide_eq_true_eq,decide_eq_false_iff_not]
  refine aw.up b.nodes.length (fun s=>s.1) (fun k (t:List Int × List aj)=>((k:Int),t)) (fun _ _=>rfl) (fun k t=>t.1=(List.range k).map (fun i=>er (fun k=>at' kind k == is) i)∧t.2=(bH (fun k=>at' kind k == is) k).map (cp (fun k=>at' kind k == is) (fun l=>at' links l) one b)) ([],[]) rfl ⟨rfl,rfl⟩ ?_
  rintro k ⟨_,_⟩ K hk ⟨rfl,rfl⟩ IH
  dsimp only
  have hle:=mA (fun k=>at' kind k == is) k
  have hlen:((bH (fun k=>at' kind k == is) k).map (cp (fun k=>at' kind k == is) (fun l=>at' links l) one b)).length=(bH (fun k=>at' kind k == is) k).length:=List.length_map _
  have hto:(List.range k).map (fun i=>er (fun k=>at' kind k == is) i)++[((((bH (fun k=>at' kind k == is) k).map (cp (fun k=>at' kind k == is) (fun l=>at' links l) one b)).length:Nat):Int)]=(List.range (k+1)).map (fun i=>er (fun k=>at' kind k == is) i):=by
    rw[hlen,List.range_succ,List.map_append];rfl
  refine⟨fun hc=>⟨by simp;omega,⟨by omega,by omega⟩,?_,?_⟩,fun hc=>?_⟩
  · intro h1
    refine⟨by simp only[I64];omega,?_⟩
    rw[show (k:Int)+1=((k+1:Nat):Int) by omega]
    refine IH (by omega) (_,_) ⟨hto,?_⟩
    rw[sL _ (by simpa using h1)]
  · intro h1
    have h1':(at' kind (k:Int) == is)=true:=by simpa using h1
    have hk1:(0:Int)≤k∧(k:Int)<b.nodes.length:=⟨by omega,by omega⟩
    have hpar:=hd k hk1.1 hk1.2
    have hll:=hl k hk1.1 hk1.2
    have hrr:=hr k hk1.1 hk1.2 h1'
    have inner:∀ (q:Int),q=(cp (fun k=>at' kind k == is) (fun l=>at' links l) one b k).parent→aw (σ:=Int × List Int) (fun s K94=>(0≤(k:Int)∧(k:Int)<b.nodes.length)∧(s.1<((at' b.nodes (k:Int)).links.length:Int)→(0≤(k:Int)∧(k:Int)<b.nodes.length)∧(0≤s.1∧s.1<(at' b.nodes (k:Int)).links.length)∧(0≤at' (at' b.nodes (k:Int)).links s.1∧at' (at' b.nodes (k:Int)).links s.1<links.length)∧s.2.length+1≤1073741824∧I64 (s.1+1)∧K94 (s.1+1,s.2++[at' links (at' (at' b.nodes (k:Int)).links s.1)]))∧(¬ s.1<((at' b.nodes (k:Int)).links.length:Int)→(0≤(k:Int)∧(k:Int)<b.nodes.length)∧((bH (fun k=>at' kind k == is) k).map (cp (fun k=>at' kind k == is) (fun l=>at' links l) one b)).length+1≤1073741824∧I64 ((k:Int)+1) ∧
        K ((k:Int)+1,(List.range k).map (fun i=>er (fun k=>at' kind k == is) i)++[((((bH (fun k=>at' kind k == is) k).map (cp (fun k=>at' kind k == is) (fun l=>at' links l) one b)).length:Nat):Int)],(bH (fun k=>at' kind k == is) k).map (cp (fun k=>at' kind k == is) (fun l=>at' links l) one b)++[aj.mk (at' b.nodes (k:Int)).control q s.2]))) (0,[]):=by
      rintro q rfl
      refine aw.upL (at' b.nodes (k:Int)).links.length (fun j t=>t=((at' b.nodes (k:Int)).links.take j).map fun l=>at' links l) [] (by simp) ?_
      rintro j _ K2 hj rfl IH2
      dsimp only
      refine⟨hk1,fun h2=>⟨hk1,⟨by omega,h2⟩,?_,by simp;omega,by simp only[I64];omega,IH2 (by omega) _ ?_⟩,fun h2=>⟨hk1,by omega,by simp only[I64];omega,?_⟩⟩
      · exact hrr _ (at_mem ⟨by omega,h2⟩)
      · rw[oG (by omega),List.map_append];rfl
      · rw[show (k:Int)+1=((k+1:Nat):Int) by omega]
        refine IH (by omega) (_,_) ⟨hto,?_⟩
        rw[pv _ h1',List.map_append,show j=(at' b.nodes (k:Int)).links.length by omega,List.take_length]
        rfl
    refine⟨hk1,fun c=>c=(decide (0≤(at' b.nodes (k:Int)).parent) && (at' kind (at' b.nodes (k:Int)).parent == is)),⟨fun h2=>⟨⟨h2,by omega⟩,?_⟩,fun h2=>?_⟩,?_⟩
    · rw[decide_eq_true h2,Bool.true_and]
    · rw[decide_eq_false h2,Bool.false_and]
    · rintro _ rfl
      refine⟨fun h2=>?_,fun h2=>⟨fun h3=>?_,fun h3=>?_⟩⟩
      · simp only[Bool.and_eq_true,decide_eq_true_eq] at h2
        rw[hto]
        have e:at' ((List.range (k+1)).map (fun i=>er (fun k=>at' kind k == is) i)) (at' b.nodes (k:Int)).parent=er (fun k=>at' kind k == is) (at' b.nodes (k:Int)).parent.toNat:=by
          obtain⟨n,hn⟩:∃ n:Nat,(at' b.nodes (k:Int)).parent=n:=⟨(at' b.nodes (k:Int)).parent.toNat,by omega⟩
          rw[hn,bY (by simp;omega)]
          simp
        refine⟨⟨h2.1,by simp;omega⟩,?_⟩
        rw[e,← hto]
        exact inner _ (by rw[cp];simp only[h2,and_self,if_true])
      · exact inner _ (by
          rw[cp]
          simp only[Bool.and_eq_false_iff,decide_eq_false_iff_not] at h2
          simp only
          rw[if_neg (fun h4=>by rcases h2 with h2 | h2;exact h2 h4.1;exact absurd (h2.symm.trans h4.2) (by decide)),if_pos h3])
      · exact inner _ (by
          rw[cp]
          simp only[Bool.and_eq_false_iff,decide_eq_false_iff_not] at h2
          simp only
          rw[if_neg (fun h4=>by rcases h2 with h2 | h2;exact h2 h4.1;exact absurd (h2.symm.trans h4.2) (by decide)),if_neg (by rw[h3];simp)])
  · rw[sc,qk,show k=b.nodes.length by omega]
end Go.Ab.Vg
