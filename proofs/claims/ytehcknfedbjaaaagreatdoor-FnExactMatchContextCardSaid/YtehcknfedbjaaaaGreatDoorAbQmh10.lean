/- Merged texts (10 of 18) of the proof that ends in Mhy: Rp Rb Md St Mu Yb Co Mp Em Se Sd Sg Na Nc. -/
import Derived.Test.YtehcknfedbjaaaaGreatDoorAbQmh9
set_option linter.unusedSectionVars false
set_option linter.unusedSimpArgs false
set_option linter.unusedVariables false
open Go.Proofs.Tryz
namespace Go.Proofs.YtehcknfedbjaaaaGreatDoor
open Go.ChangeShapes Go.WideShapes Go.ChangeAt Go.RowKit Go.Ab
set_option maxRecDepth 100000
theorem own:ownKnob Tryz.prog.godebug=none:=by kernel_rfl
theorem laidOut:laidOutB prog=true:=by kernel_rfl
theorem EC:Tryz.prog.underlying 4=some .bool:=Tryz.underlying4
end Go.Proofs.YtehcknfedbjaaaaGreatDoor
namespace Go.Proofs.YtehcknfedbjaaaaGreatDoor
open Go.ChangeShapes Go.WideShapes Go.ChangeAt Go.RowKit Go.Ab
set_option maxRecDepth 100000
theorem HC:Reader prog 60 Control.cells (fun x=>x.name.length<=9223372036854775807):=by
  have h:=Reader.struct Tryz.underlying60 (n:=3) (by kernel_rfl) (cr.cons (n:=1) rfl (by kernel_rfl) (Reader.str Tryz.underlying9) (cr.cons (n:=1) rfl (by kernel_rfl) (Reader.int Tryz.underlying3) (cr.cons (n:=1) rfl (by kernel_rfl) (Reader.int Tryz.underlying3) (cr.nil 3))));exact h.map (fun p=>⟨p.1,p.2.1,p.2.2.1⟩) (fun p=>rfl) (fun p hp=>hp.1)
theorem rWire:Reader prog 97 aD.cells (fun x=>x.name.length<=9223372036854775807):=by
  have h:=Reader.struct Tryz.underlying97 (n:=2) (by kernel_rfl) (cr.cons (n:=1) rfl (by kernel_rfl) (Reader.str Tryz.underlying9) (cr.cons (n:=1) rfl (by kernel_rfl) (Reader.int Tryz.underlying3) (cr.nil 2)));exact h.map (fun p=>⟨p.1,p.2.1⟩) (fun p=>rfl) (fun p hp=>hp.1)
theorem DA:Reader prog 24 (fun l:List Int=>[Ab.encI false l]) (fun l=>l.length<=9223372036854775807/\∀ p ∈ l,bh p):=
  Reader.slice Tryz.underlying24 (of_decide_eq_true (by kernel_rfl)) (Reader.int Tryz.underlying3)
theorem rStrs:Reader prog 25 (fun l:List a6=>[Ab.encS false l]) (fun l=>l.length<=9223372036854775807/\∀ s ∈ l,s.length<=9223372036854775807):=
  Reader.slice Tryz.underlying25 (of_decide_eq_true (by kernel_rfl)) (Reader.str Tryz.underlying9)
theorem rGNode:Reader prog 94 (ay.cells false) (fun x=>x.links.length<=9223372036854775807/\bh x.parent):=by
  have h:=Reader.struct Tryz.underlying94 (n:=3) (by kernel_rfl) (cr.cons (n:=1) rfl (by kernel_rfl) (Reader.int Tryz.underlying3) (cr.cons (n:=1) rfl (by kernel_rfl) (Reader.int Tryz.underlying3) (cr.cons (n:=1) rfl (by kernel_rfl) DA (cr.nil 3))));exact h.map (fun p=>⟨p.1,p.2.1,p.2.2.1⟩) (fun p=>rfl) (fun p hp=>⟨hp.2.2.1.1,hp.2.1⟩)
theorem rNodes:Reader prog 23 (fun l:List ay=>[Ab.cw false l]) (fun l=>l.length<=9223372036854775807/\∀ x ∈ l,x.links.length<=9223372036854775807/\bh x.parent):=
  Reader.slice Tryz.underlying23 (of_decide_eq_true (by kernel_rfl)) rGNode
theorem rWires:Reader prog 26 (fun l:List aD=>[Ab.cI false l]) (fun l=>l.length<=9223372036854775807/\∀ x ∈ l,x.name.length<=9223372036854775807):=
  Reader.slice Tryz.underlying26 (of_decide_eq_true (by kernel_rfl)) rWire
theorem rSig:uY prog 22 (bK false) Dz:=by
  refine uY.cell (CY Tryz.underlying22) ?_;have h:=Reader.slice Tryz.underlying22 (of_decide_eq_true (by kernel_rfl)) HC;exact h.map (fun p=>p) (fun p=>rfl) (fun p hp=>⟨hp.1,hp.2⟩)
theorem rBigF:Reader prog 28 (aG.cells false) ll:=by
  have h:=Reader.struct Tryz.underlying28 (n:=6) (by kernel_rfl) (cr.cons (n:=1) rfl (by kernel_rfl) (Reader.int Tryz.underlying3) (cr.cons (n:=1) rfl (by kernel_rfl) rNodes (cr.cons (n:=1) rfl (by kernel_rfl) DA
    (cr.cons (n:=1) rfl (by kernel_rfl) (Reader.int Tryz.underlying3) (cr.cons (n:=1) rfl (by kernel_rfl) rStrs (cr.cons (n:=1) rfl (by kernel_rfl) rWires (cr.nil 6)))))))
  exact h.map (e':=aG.cells false) (ok':=ll) (fun p=>⟨p.1,p.2.1,p.2.2.1,p.2.2.2.1,p.2.2.2.2.1,p.2.2.2.2.2.1⟩) (fun p=>rfl) (fun p hp=>by
    obtain⟨_,h1,h2,_,h3,h4,_⟩:=hp;exact⟨h1.1,fun x hx=>(h1.2 x hx).1,h2.1,h3.1,h3.2,h4.1,h4.2,fun x hx=>(h1.2 x hx).2,h2.2⟩)
theorem rBig:uY prog 28 (cX false) ll:=uY.struct Tryz.underlying28 rBigF
end Go.Proofs.YtehcknfedbjaaaaGreatDoor
namespace Go.Ab.Vg
abbrev wS (m:Match):Prop:=m.nodes.length<=9223372036854775807/\m.roots.length<=9223372036854775807
abbrev kx (m:Match):Match:=m
abbrev fT (m:Match):Prop:=IQ m
def l6 (a:Match) (Z:Match->Prop):Prop:=
  (fN a.nodes)/\∀ r8:List Int,r8=rH a.nodes->(fN a.roots)/\∀ r20:List Int,r20=rH a.roots->Z (Match.mk r8 r20)
theorem Df (m:Match) (h:fT m):l6 m (fun y=>y=kx m):=by
  unfold l6;simp only[forall_eq];exact⟨h.1,h.2,trivial⟩
def IK (m:Match) (left:Int):Int:=if nk m.nodes left<0 then -1 else nk m.roots (nk m.nodes left)
abbrev w3 (m:Match) (left:Int):Prop:=(0<=left/\left<=1048576)/\wS m
def yR (a:Match) (left:Int) (Z:Int->Prop):Prop:=
  (((0:Int)<=left/\(left:Int)<=1048576)/\a.nodes.length<=9223372036854775807)/\∀ r5:Int,r5=nk a.nodes left->∀ c6:Bool,c6=decide (r5<0)->((c6=true->Z (-1))/\(c6=false->(((0:Int)<=r5/\(r5:Int)<=1048576)/\a.roots.length<=9223372036854775807)/\∀ r9:Int,r9=nk a.roots r5->∀ c10:Bool,c10=decide (r9<0)->((c10=true->Z (-1))/\(c10=false->Z r9))))
theorem szM_vc (m:Match) (left:Int) (h:w3 m left):yR m left (fun y=>y=IK m left):=by
  unfold yR;obtain⟨⟨h0,h1⟩,h2,h3⟩:=h;have h4:=vS nk m.nodes left h0;simp only[forall_eq,decide_eq_true_eq,decide_eq_false_iff_not];refine⟨⟨⟨h0,h1⟩,h2⟩,fun h5=>by rw[IK,if_pos h5],fun h5=>⟨⟨⟨by omega,by omega⟩,h3⟩,fun h6=>?_,fun h6=>by rw[IK,if_neg h5]⟩⟩;rw[IK,if_neg h5];have:nk m.roots (nk m.nodes left)<0:=h6;simp only[nk] at this ⊢
  split at this<;>omega
abbrev eqM (a b:Match):Bool:=decide (a=b)
abbrev xk (a _:Match):Prop:=IQ a
def yx (a:Match) (b:Match) (Z:Bool->Prop):Prop:=
  (a.nodes.length<=1048576)/\∀ r6:Bool,r6=decide (a.nodes=b.nodes)->((r6=true->(a.roots.length<=1048576)/\∀ r8:Bool,r8=decide (a.roots=b.roots)->((r8=true->Z true)/\(r8=false->Z false)))/\(r6=false->Z false))
theorem eqM_vc (a b:Match) (h:xk a b):yx a b (fun y=>y=eqM a b):=by
  unfold yx;simp only[forall_eq,decide_eq_true_eq,decide_eq_false_iff_not];obtain⟨x,y⟩:=a;obtain⟨z,w⟩:=b;refine⟨h.1,fun h1=>⟨h.2,fun h2=>?_,fun h2=>?_⟩,fun h1=>?_⟩
  · simp only at h1 h2;subst h1 h2;simp
  · simp only at h1 h2;simp[eqM,h2]
  · simp only at h1;simp[eqM,h1]
abbrev G7 (x:aG):Prop:=x.nodes.length<=1048576/\(∀ z ∈ x.nodes,z.links.length<=1048576)/\x.sites.length<=1048576/\x.outer.length<=1048576/\x.inner.length<=1048576
structure ArgsM (sig:cP) (r a:aG) (m:Match):Prop where
  hS:sig.length<=1048576
  r:cv sig r
  a:cv sig a
  m:IQ m
theorem Ie {sig:cP} {b:aG} (h:cv sig b):G7 b:=⟨h.nodesLen,h.linksLen,h.sitesLen,h.outerLen,h.innerLen⟩
theorem AB {sig:cP} {b:aG} (h:cv sig b):cF b:=⟨⟨h.nodesLen,h.linksLen⟩,h.sitesLen,h.outerLen,h.innerLen⟩
theorem bothOf {sig s2:cP} {b b2:aG} (h:cv sig b2) (h2:cv s2 b):cv sig b:=
  ⟨h.sigLen,h.sigNames,h2.nodesLen,h2.sitesLen,h2.outerLen,h2.innerLen,h2.outerNames,h2.innerNames,h2.linksLen,h2.parents,h2.sites64⟩
theorem yA (b:aG) (left:Int) (h:0<=left):pO b left<=left:=by
  unfold pO;have h1:=kT qU b.nodes left h
  split
  · omega
  have h2:=vS nk b.sites (fq qU b.nodes left) (by omega)
  split
  · omega
  have h3:=kT dV b.outer (nk b.sites (fq qU b.nodes left)) (by omega)
  split
  · omega
  have h4:=kT DT b.inner (fq dV b.outer (nk b.sites (fq qU b.nodes left))) (by omega)
  split<;>omega
theorem argsM {sig:cP} {r a:aG} {m:Match} (h1:¬ fq mX sig 1048576<0) (h2:¬ pO r (fq mX sig 1048576)<0) (h3:¬ pO a (pO r (fq mX sig 1048576))<0) (h4:¬ IK m (pO a (pO r (fq mX sig 1048576)))<0)
    (hr:ll r) (ha:ll a):ArgsM sig r a m:=by
  have l1:=kT mX sig 1048576 (by omega);have l2:=yA r (fq mX sig 1048576) (by omega);have l3:=yA a (pO r (fq mX sig 1048576)) (by omega);have hR:cv sig r:=Hk (left:=1048576) (by omega) (by omega) (by omega) (by omega) hr;have e0:fq mX [] (pO r (fq mX sig 1048576))=pO r (fq mX sig 1048576):=by
    have:fq mX [] (pO r (fq mX sig 1048576))=(if pO r (fq mX sig 1048576) - (([]:cP).length:Int)<0 then -1 else pO r (fq mX sig 1048576) - (([]:cP).length:Int)):=by
      unfold fq;split<;>rfl
    rw[this];simp only[List.length_nil];split<;>omega
  have hA:cv [] a:=Hk (left:=pO r (fq mX sig 1048576)) (by omega) (by omega) (by rw[e0];omega) (by rw[e0];omega) ha;refine⟨hR.sigLen,hR,bothOf hR hA,?_⟩;unfold IK at h4
  split at h4
  · omega
  have:=tj (s:=m.nodes) (c:=pO a (pO r (fq mX sig 1048576))) (by omega);have l4:=vS nk m.nodes (pO a (pO r (fq mX sig 1048576))) (by omega);have:=tj (s:=m.roots) (c:=nk m.nodes (pO a (pO r (fq mX sig 1048576)))) (by omega);exact⟨by omega,by omega⟩
def js (m:Match) (k:Int):Match × Int:=(⟨(br m.nodes k).1,(br m.roots (br m.nodes k).2).1⟩,(br m.roots (br m.nodes k).2).2)
abbrev kX (m:Match) (k:Int):Prop:=IQ m/\0<=k/\k<=1125899906842624
def jh (a:Match) (k_:Int) (Z:(Match × Int)->Prop):Prop:=
  (fb a.nodes k_)/\∀ r9:(List Int) × Int,r9=br a.nodes k_->(fb a.roots r9.2)/\∀ r18:(List Int) × Int,r18=br a.roots r9.2->Z ((Match.mk r9.1 r18.1),r18.2)
theorem yg (m:Match) (k:Int) (h:kX m k):jh m k (fun y=>y=js m k):=by
  unfold jh;obtain⟨⟨h1,h2⟩,h3,h4⟩:=h;simp only[forall_eq];refine⟨⟨by omega,by omega,by omega⟩,⟨by simp only[br,eC];omega,by omega,by simp only[br,eC];omega⟩,rfl⟩
theorem DI:∀ {l:List ay},(∀ x ∈ l,x.links.length<=1048576)->(l.map bE).sum<=1048578 * l.length
  | [],_=>by simp
  | x::l,h=>by
    have h1:=DI (l:=l) fun y hy=>h y (by simp[hy])
    have h2:=h x (by simp);simp only[List.map_cons,List.sum_cons,List.length_cons,bE] at h1 ⊢;omega
theorem Dx {b:aG} (h:G7 b) (k:Int) (h0:0<=k) (hk:k<=1125899906842624):eW b k/\(k<=(bR b k).2/\(bR b k).2<=k+2199027449856):=by
  obtain⟨h1,h2,h3,h4,h5⟩:=h;have hs:=DI h2;have hb:mQ b=(b.nodes.map bE).sum+b.sites.length+b.outer.length+2 * b.inner.length:=rfl;refine⟨⟨h0,h1,h2,h3,h4,h5,by omega⟩,?_⟩;have p1:=ng b.nodes k;simp only[bR,br,ch,dZ,eC,p1];omega
end Go.Ab.Vg
namespace Go.Ab
structure Guard where
  zone:Int
  neg:Bool
  pattern:aG
  deriving Inhabited,DecidableEq
section
variable {H:ax} {n:Nat}
end
end Go.Ab
namespace Go.Ab.Vg
def j8 (zone:Int) (I:aG) (m:Match) (x:Int):Bool:=if zone=2 then !(cZ I m.nodes x) else if zone=3 then cZ I m.nodes x && !(lg m.nodes x) else true
def rp (zone:Int) (I:aG) (m:Match) (k:Nat):List Int:=((List.range k).map fun i:Nat=>(i:Int)).filter (j8 zone I m)
theorem oy (zone:Int) (I:aG) (m:Match) (k:Nat):rp zone I m (k+1)=if j8 zone I m k then rp zone I m k++[(k:Int)] else rp zone I m k:=by
  rw[rp,List.range_succ,List.map_append,List.filter_append]
  by_cases h:j8 zone I m k=true<;>simp[h,rp]
theorem qd (zone:Int) (I:aG) (m:Match) (k:Nat):(rp zone I m k).length<=k:=by
  have:=List.length_filter_le (j8 zone I m) ((List.range k).map fun i:Nat=>(i:Int));simpa[rp] using this
theorem tO {zone:Int} {I:aG} {m:Match} {k:Nat} {x:Int}:x ∈ rp zone I m k↔(0<=x/\x<k)/\j8 zone I m x=true:=by
  simp only[rp,List.mem_filter,List.mem_map,List.mem_range]
  constructor
  · rintro⟨⟨i,hi,rfl⟩,h⟩
    exact⟨⟨by omega,by omega⟩,h⟩
  · rintro⟨⟨h1,h2⟩,h⟩
    exact⟨⟨x.toNat,by omega,by omega⟩,h⟩
abbrev vk (I:aG) (m:Match):List Int:=rp 2 I m I.nodes.length
abbrev pw (I:aG) (m:Match):Prop:=pj I/\m.nodes.length<=1048576
def ot (I:aG) (m:Match) (Z:(List Int)->Prop):Prop:=
  ∀ len8:Int,len8=(I.nodes.length:Int)->aI (σ:=Int × (List Int)) (fun (v17,l18) K22=>∀ c23:Bool,c23=decide (v17<len8)->((c23=true->(iv I v17 m.nodes)/\∀ r26:Bool,r26=lV I v17 m.nodes->((r26=true->(bh (v17+1))/\∀ v41:Int,v41=v17+1->K22 (v41,l18))/\(r26=false->(l18.length+1<=1073741824)/\∀ l28:List Int,l28=l18++[v17]->(bh (v17+1))/\∀ v38:Int,v38=v17+1->K22 (v38,l28))))/\(c23=false->Z l18))) (0,([]:List Int))
theorem Ex (I:aG) (m:Match) (h:pw I m):ot I m (fun y=>y=vk I m):=by
  unfold ot;obtain⟨h1,h2⟩:=h;have h8:=h1.1;simp only[forall_eq,decide_eq_true_eq,decide_eq_false_iff_not];refine aI.mS I.nodes.length (fun k t=>t=rp 2 I m k) [] rfl ?_;rintro k _ K hk rfl IH;dsimp only;have hl:=qd 2 I m k;refine⟨fun h3=>⟨⟨h1,by omega,h2⟩,fun h4=>⟨by simp only[bh];omega,IH (by omega) _ ?_⟩,fun h4=>⟨by omega,by simp only[bh];omega,IH (by omega) _ ?_⟩⟩,fun h3=>?_⟩
  · rw[oy,if_neg (by simp only[j8,if_true];rw[show cZ I m.nodes (k:Int)=true from h4];simp)]
  · rw[oy,if_pos (by simp only[j8,if_true];rw[show cZ I m.nodes (k:Int)=false from h4];simp)]
  · rw[vk,show I.nodes.length=k by omega]
abbrev cy (I:aG) (m:Match):List Int:=rp 3 I m I.nodes.length
abbrev iG (I:aG) (m:Match):Prop:=pj I/\m.nodes.length<=1048576
def gy (I:aG) (m:Match) (Z:(List Int)->Prop):Prop:=
  ∀ len8:Int,len8=(I.nodes.length:Int)->aI (σ:=Int × (List Int)) (fun (v17,l18) K22=>∀ c23:Bool,c23=decide (v17<len8)->((c23=true->dI (fun (J25:Bool->Prop)=>(iv I v17 m.nodes)/\∀ r49:Bool,r49=lV I v17 m.nodes->((r49=true->(m.nodes.length<=1048576)/\∀ r51:Bool,r51=lg m.nodes v17->J25 ((!r51)))/\(r49=false->J25 (false)))) (fun b28=>((b28=true->(l18.length+1<=1073741824)/\∀ l33:List Int,l33=l18++[v17]->(bh (v17+1))/\∀ v43:Int,v43=v17+1->K22 (v43,l33))/\(b28=false->(bh (v17+1))/\∀ v46:Int,v46=v17+1->K22 (v46,l18)))))/\(c23=false->Z l18))) (0,([]:List Int))
theorem tR (I:aG) (m:Match) (h:iG I m):gy I m (fun y=>y=cy I m):=by
  unfold gy;obtain⟨h1,h2⟩:=h;have h8:=h1.1;simp only[forall_eq,decide_eq_true_eq,decide_eq_false_iff_not];refine aI.mS I.nodes.length (fun k t=>t=rp 3 I m k) [] rfl ?_;rintro k _ K hk rfl IH;dsimp only;have hl:=qd 3 I m k;refine⟨fun h3=>⟨fun b=>b=j8 3 I m k,⟨⟨h1,by omega,h2⟩,fun h4=>⟨h2,?_⟩,fun h4=>?_⟩,?_⟩,fun h3=>?_⟩
  · simp only[j8];rw[show cZ I m.nodes (k:Int)=true from h4];simp
  · simp only[j8];rw[show cZ I m.nodes (k:Int)=false from h4];simp
  · rintro _ rfl
    refine⟨fun h4=>⟨by omega,by simp only[bh];omega,IH (by omega) _ ?_⟩,fun h4=>⟨by simp only[bh];omega,IH (by omega) _ ?_⟩⟩
    · rw[oy,if_pos h4]
    · rw[oy,if_neg (by rw[h4];simp)]
  · rw[cy,show I.nodes.length=k by omega]
abbrev isPart (a b:List Int):Bool:=a.all (fun n=>lg b n)
noncomputable def holdsB (g:Guard) (I:aG) (m:Match):Bool:=((Gm g.pattern I).any fun o=>o.nodes.all (j8 g.zone I m)) != g.neg
noncomputable abbrev holds (g:Guard) (I:aG) (m:Match):Bool:=holdsB g I m
end Go.Ab.Vg
namespace Go.Ab
open Go.Proofs
end Go.Ab
namespace Go.Ab.Vg
abbrev qC (l:List a6):List a6 × Unit:=(l.mergeSort fun x y=>decide (x<=y),())
theorem F6 (a b:a6):a<=b\/b<=a:=List.le_total a b
end Go.Ab.Vg
namespace Go.Ab.Vg
end Go.Ab.Vg
namespace Go.Ab.Vg
theorem EV {a b:a6} (h:a<=b) (hn:a ≠ b):a<b:=by
  by_cases hl:a<b
  · exact hl
  · exact absurd (List.le_antisymm h hl) hn
theorem yJ {a b:a6} (h:a<b):a ≠ b:=by rintro rfl;exact List.lt_irrefl a h
theorem fc {a b c:a6} (h:a<b) (h':b<c):a<c:=List.lt_trans h h'
theorem DW {l m:List a6} (hl:l.Pairwise (·<·)) (hm:m.Pairwise (·<·)) (h:∀ x,x ∈ l↔x ∈ m):l=m:=by
  have U:l.Nodup:=hl.imp fun h=>yJ h
  have n2:m.Nodup:=hm.imp fun h=>yJ h
  exact ((List.perm_ext_iff_of_nodup U n2).2 h).eq_of_pairwise (fun a b _ _ h h'=>absurd (fc h h') (List.lt_irrefl a)) hl hm
theorem lD {d:List a6} {j:Nat} (h:j<d.length):d.toArray[j]! = d[j]:=by simp[h]
theorem jA {d:List a6} (hd:d.Pairwise (·<=·)):∀ m,m<=d.length->(Go.Lib.compactUpTo d.toArray m).Pairwise (·<·)/\∀ x,x ∈ Go.Lib.compactUpTo d.toArray m↔x ∈ d.take m
  | 0,_=>by simp[Go.Lib.compactUpTo]
  | m+1,hm=>by
    obtain⟨h1,h2⟩:=jA hd m (by omega);have hm1:m<d.length:=by omega
    have htk:d.take (m+1)=d.take m++[d[m]]:=List.take_succ_eq_append_getElem hm1;rw[Go.Lib.compactUpTo_succ,htk]
    by_cases hk:Go.Lib.keeps d.toArray m=true
    · rw[if_pos hk]
      have hlt:∀ a ∈ d.take m,a<d[m]:=fun a ha=>by
        obtain⟨j,hj,rfl⟩:=List.getElem_of_mem ha;have hjm:j<m:=by simp at hj;omega
        rw[List.getElem_take];simp only[Go.Lib.keeps,decide_eq_true_eq] at hk;have hne:d[m] ≠ d[m - 1]:=by
          rcases hk with h | h
          · omega
          · rwa [lD hm1,lD (show m - 1<d.length by omega)] at h
        have hp:=List.pairwise_iff_getElem.1 hd;have h3:d[m - 1]<=d[m]:=hp (m - 1) m (by omega) hm1 (by omega);have h4:d[m - 1]<d[m]:=EV h3 (Ne.symm hne);rcases Nat.lt_or_ge j (m - 1) with h5 | h5
        · exact List.lt_of_le_of_lt (hp j (m - 1) (by omega) (by omega) h5) h4
        · have:j=m - 1:=by omega
          subst this;exact h4
      refine⟨List.pairwise_append.2 ⟨h1,by simp,fun a ha b hb=>?_⟩,fun x=>?_⟩
      · simp only[List.mem_singleton,lD hm1] at hb
        subst hb;exact hlt a ((h2 a).1 ha)
      · simp only[List.mem_append,h2,lD hm1]
    · rw[if_neg hk,List.append_nil]
      refine⟨h1,fun x=>?_⟩;rw[h2,List.mem_append];refine⟨.inl,fun h=>h.elim id fun h=>?_⟩;simp only[Go.Lib.keeps,decide_eq_true_eq,not_or,Decidable.not_not] at hk;obtain⟨k0,k1⟩:=hk;rw[lD hm1,lD (show m - 1<d.length by omega)] at k1;simp only[List.mem_singleton] at h;subst h;rw[k1];exact List.mem_iff_getElem.2 ⟨m - 1,by simp;omega,by simp⟩
abbrev mJ (l:List a6):Prop:=l.length<=1048576
abbrev rE (l:List a6):List a6:=l
def ov (s:List a6) (Z:(List a6)->Prop):Prop:=
  ∀ c2:Bool,(c2=true->s=[])->((c2=true->Z [])/\(c2=false->(([]:List a6).length+s.length<=1073741824)/\∀ l7:List a6,l7=([]:List a6)++s->Z l7))
theorem Fa (l:List a6) (h:mJ l):ov l (fun y=>y=rE l):=by
  unfold ov;intro c hc;refine⟨fun h1=>(hc h1).symm,fun _=>⟨by simp;omega,?_⟩⟩;rintro _ rfl;simp
abbrev kZ (l:List a6):List a6:=Go.Lib.compact l
theorem tD (l:List a6):(kZ l).length<=l.length:=by
  have h:(kZ l).length<=(List.range l.length).length:=by
    simp only[kZ,Go.Lib.compact,Go.Lib.compactUpTo,List.length_map];exact List.length_filter_le _ _
  simpa using h
abbrev iE (l:List a6):Prop:=l.length<=1048576
def bQ (l:List a6):List a6:=kZ (qC l).1
def gp (l:List a6) (Z:(List a6)->Prop):Prop:=
  (mJ l)/\∀ r3:List a6,r3=rE l->(r3.length<=1073741824)/\∀ r14:(List a6) × Unit,r14=qC r3->(r14.1.length<=1073741824)/\∀ r24:List a6,r24=kZ r14.1->Z r24
theorem tA (l:List a6) (h:iE l):gp l (fun y=>y=bQ l):=by
  unfold gp;simp only[forall_eq,qC,List.length_mergeSort,rE];exact⟨h,by omega,by omega,rfl⟩
theorem lF (l:List a6):(bQ l).Pairwise (·<·)/\∀ x,x ∈ bQ l↔x ∈ l:=by
  have h3:(qC l).1.Pairwise (·<=·):=by
    have:=List.pairwise_mergeSort (le:=fun x y:a6=>decide (x<=y)) (fun a b c h1 h2=>by simp only[decide_eq_true_eq] at *;exact List.le_trans h1 h2) (fun a b=>by simpa using F6 a b) l;simpa[qC] using this
  obtain⟨h1,h2⟩:=jA h3 (qC l).1.length (Nat.le_refl _);refine⟨h1,fun x=>(h2 x).trans ?_⟩;rw[List.take_length];exact List.mem_mergeSort
theorem sU (l:List a6):(bQ l).length<=l.length:=by
  have:=tD (qC l).1;simpa[qC,bQ] using this
abbrev jH (l:List a6) (_:a6):Prop:=l.length<=1048576
def eJ (l:List a6) (s:a6):Int:=if s ∈ l then (l.idxOf s:Int) else -1
theorem wc {l:List a6} {s:a6} (h:∀ j<l.length,at' l (j:Int) ≠ s):eJ l s = -1:=by
  rw[eJ,if_neg];intro hm;obtain⟨j,hj,he⟩:=List.getElem_of_mem hm;exact h j hj (by rw[cK hj];exact he)
theorem pN {l:List a6} {s:a6} {k:Nat} (hk:k<l.length) (h:∀ j<k,at' l (j:Int) ≠ s) (he:at' l (k:Int)=s):eJ l s=k:=by
  rw[cK hk] at he;have hm:s ∈ l:=he ▸ List.getElem_mem hk;rw[eJ,if_pos hm];have h1:l.idxOf s<l.length:=List.idxOf_lt_length_iff.2 hm;have h2:l[l.idxOf s]=s:=List.getElem_idxOf h1;have h3:¬ l.idxOf s<k:=fun hlt=>h _ hlt (by rw[cK h1];exact h2)
  have h4:¬ k<l.idxOf s:=fun hlt=>by
    have:=List.not_of_lt_findIdx (p:=(· == s)) (xs:=l) hlt;simp[he] at this
  omega
def od (s:List a6) (v_:a6) (Z:Int->Prop):Prop:=
  ∀ cJ:Int,cJ=(s.length:Int)->aI (σ:=Int) (fun v6 K9=>∀ c10:Bool,c10=decide (v6<cJ)->((c10=true->(0<=v6/\v6<s.length)/\∀ x13:a6,x13=at' s v6->∀ c15:Bool,c15=decide (v_=x13)->((c15=true->Z v6)/\(c15=false->(bh (v6+1))/\∀ v18:Int,v18=v6+1->K9 (v18))))/\(c10=false->Z (-1)))) (0)
theorem Ei (l:List a6) (s:a6) (h:jH l s):od l s (fun y=>y=eJ l s):=by
  unfold od;rintro _ rfl;refine aI.Bi l.length (fun k=>∀ j<k,at' l (j:Int) ≠ s) (by simp) ?_;rintro k K hk hI IH;simp only[forall_eq,decide_eq_true_eq,decide_eq_false_iff_not,bh];refine⟨fun h1=>⟨by omega,fun h2=>(pN (by omega) hI h2.symm).symm,fun h2=>⟨by omega,IH (by omega) fun j hj=>?_⟩⟩,fun h1=>?_⟩
  · rcases Nat.lt_or_ge j k with h3 | h3
    · exact hI j h3
    · rw[show j=k by omega];exact fun h=>h2 h.symm
  · rw[wc fun j hj=>hI j (by omega)]
abbrev qP (l:List a6) (_:a6):Prop:=l.length<=1048576
abbrev Ip (l:List a6) (s:a6):Int:=eJ l s
def tc (list:List a6) (name:a6) (Z:Int->Prop):Prop:=
  aI (σ:=Int) (fun i4 K7=>∀ len8:Int,len8=(list.length:Int)->∀ c10:Bool,c10=decide (i4<len8)->((c10=true->(0<=i4/\i4<list.length)/\∀ x13:a6,x13=at' list i4->∀ c15:Bool,c15=decide (x13=name)->((c15=true->Z i4)/\(c15=false->(bh (i4+1))/\∀ v18:Int,v18=i4+1->K7 (v18))))/\(c10=false->Z (-1)))) (0)
theorem Iy (l:List a6) (s:a6) (h:qP l s):tc l s (fun y=>y=Ip l s):=by
  unfold tc;refine aI.Bi l.length (fun k=>∀ j<k,at' l (j:Int) ≠ s) (by simp) ?_;rintro k K hk hI IH;simp only[forall_eq,decide_eq_true_eq,decide_eq_false_iff_not,bh];refine⟨fun h1=>⟨by omega,fun h2=>(pN (by omega) hI h2).symm,fun h2=>⟨by omega,IH (by omega) fun j hj=>?_⟩⟩,fun h1=>?_⟩
  · rcases Nat.lt_or_ge j k with h3 | h3
    · exact hI j h3
    · rw[show j=k by omega];exact h2
  · rw[Ip,wc fun j hj=>hI j (by omega)]
end Go.Ab.Vg
namespace Go.Ab
section
variable {H:ax} {n:Nat} {K K':List cm} {ids:List Id}
end
section
variable {P:Program} {f:FuncId} {N:Nat} {k:List Item} {Q:au->ax->Nat->Prop} {Ty:Types} {l:List Oper} {O:Env} {H:ax} {n:Nat}
end
end Go.Ab
namespace Go.Ab
section
variable (P:Program) (N:Nat) (ops:Array Oper) (cN:ax->Nat->Prop) (ba:List Nat)
def iM (j:Nat):Bool:=(List.range ops.size).all fun k=>ba.contains k || (behind ops k).contains j
def GF (o:Oper) (s s':AS):Prop:=∃ v,s'=(s.1.put o.dst v,s.2)/\((gG ops o s.1=some true/\∀ H n,cN H n->aW P N o (loc o.op s.1) H n (xm v H n))\/(gG ops o s.1=some false/\v=o7))
def lu (R:AS->Prop):Nat->Array Bool->AS->Prop
  | 0,listed,s=>Region.ready .any ops listed=[]/\R s
  | fuel+1,listed,s=>(Region.ready .any ops listed=[]->R s)/\∀ i ∈ Region.ready .any ops listed,∃ o,ops[i]?=some o /\
      ((i ∉ ba/\cN s.2.1 s.2.2/\∃ s',GF P N ops cN o s s'/\lu R fuel (listed.setIfInBounds i true) s') \/
       (i ∈ ba/\gG ops o s.1=some true/\∃ post:au->ax->Nat->Prop,aW P N o (loc o.op s.1) s.2.1 s.2.2 post/\∀ v H' n',post v H' n'->(iM ops ba i=false->cN H' n')/\lu R fuel (listed.setIfInBounds i true) (s.1.put o.dst v,H',n')))
inductive kW where
  | fin
  | stop
  | free (i:Nat) (t:kW)
  | ba (i:Nat) (t a:kW)
def kW.alts:kW->List Nat
  | .ba i _ a=>i::a.alts
  | _=>[]
def kW.depth:kW->Nat
  | .free _ t=>t.depth+1
  | .ba _ t a=>max (t.depth+1) a.depth
  | _=>0
def wG (t:kW) (listed:Array Bool):Bool:=match t with
  | .ba _ _ _ => !(Region.ready .any ops listed).isEmpty && (Region.ready .any ops listed).all fun i=>t.alts.contains i
  | .stop=>false
  | _=>true
def vu:kW->Array Bool->Bool
  | .fin,listed=>(Region.ready .any ops listed).isEmpty
  | .stop,_=>true
  | .free i t,listed => !ba.contains i && (Region.ready .any ops listed).contains i && DJ (fun _=>0) ops listed i && wG ops t (listed.setIfInBounds i true) && vu t (listed.setIfInBounds i true)
  | .ba i t a,listed=>ba.contains i && wG ops t (listed.setIfInBounds i true) && vu t (listed.setIfInBounds i true) && vu a listed
def sk (R':AS->Prop) (i:Nat) (s:AS):Prop:=∃ o,ops[i]?=some o/\gG ops o s.1=some true/\∃ post:au->ax->Nat->Prop,aW P N o (loc o.op s.1) s.2.1 s.2.2 post/\∀ v H' n',post v H' n'->(iM ops ba i=false->cN H' n')/\R' (s.1.put o.dst v,H',n')
def RunT (R:AS->Prop):kW->AS->Prop
  | .fin,s=>R s
  | .stop,_=>True
  | .free i t,s=>∃ o,ops[i]?=some o/\cN s.2.1 s.2.2/\∃ s',GF P N ops cN o s s'/\RunT R t s'
  | .ba i t a,s=>sk P N ops cN ba (RunT R t) i s/\RunT R a s
def GW (t:kW):Bool:=wG ops t (Array.replicate ops.size false) && vu ops ba t (Array.replicate ops.size false) && decide (t.depth<=ops.size)
end
section
variable {P:Program} {N:Nat} {ops:Array Oper} {cN:ax->Nat->Prop} {ba:List Nat}
theorem lu.first {R:AS->Prop} {i:Nat} {oi:Oper} (hi:ops[i]?=some oi) (hih:i ∉ ba) (hD:∀ j oj,ops[j]?=some oj->j ∈ behind ops i->j ≠ i->∃ e ∈ oj.after,Region.binds .any e=true/\e.on ∈ behind ops i):∀ (fuel:Nat) (listed:Array Bool) (s s':AS),
    (∀ j ∈ behind ops i,listed.getD j true=false)->(∀ j oj,ops[j]?=some oj->j ≠ i->listed.getD j true=false->j ∉ behind ops i->oi.apart ops oj=true) ->
    i ∈ Region.ready .any ops listed->cN s.2.1 s.2.2->GF P N ops cN oi s s'->lu P N ops cN ba R fuel (listed.setIfInBounds i true) s'->lu P N ops cN ba R (fuel+1) listed s:=by
  intro fuel
  induction fuel with
  | zero=>
    intro listed s s' _ _ hr hS hst H;refine⟨fun h=>(by rw[h] at hr;cases hr),fun j hj=>?_⟩
    by_cases hji:j=i
    · subst hji;exact⟨oi,hi,.inl ⟨hih,hS,s',hst,H⟩⟩
    · have:=ready_mono hj hji
      rw[H.1] at this;cases this
  | succ fuel ih=>
    intro listed s s' hinv hfree hr hS hst H;refine⟨fun h=>(by rw[h] at hr;cases hr),fun j hj=>?_⟩
    by_cases hji:j=i
    · subst hji;exact⟨oi,hi,.inl ⟨hih,hS,s',hst,H⟩⟩
    · obtain⟨oj,hoj,hbr⟩:=H.2 j (ready_mono hj hji)
      obtain⟨hjun,oj',hoj',hall⟩:=mem_ready.1 hj;rw[hoj] at hoj';cases hoj';have hnot:j ∉ behind ops i:=fun hd=>by
        obtain⟨e,he,hb,hed⟩:=hD j oj hoj hd hji;have h1:=hall e he hb;have h0:=hinv e.on hed;rcases Nat.lt_or_ge e.on listed.size with h' | h'
        · simp[h'] at h0 h1;rw[h0] at h1;cases h1
        · simp[Array.getElem?_eq_none h'] at h1
      obtain⟨h1,h2,h3⟩:=Oper.apart_spec (hfree j oj hoj hji hjun hnot);have hinv':∀ k ∈ behind ops i,(listed.setIfInBounds j true).getD k true=false:=fun k hk=>by
        have hjk:j ≠ k:=fun he=>hnot (he ▸ hk)
        rw[getD_set_ne true hjk];exact hinv k hk
      have hfree':∀ k ok,ops[k]?=some ok->k ≠ i->(listed.setIfInBounds j true).getD k true=false->k ∉ behind ops i->oi.apart ops ok=true:=fun k ok hk hki hun hno=>by
        refine hfree k ok hk hki ?_ hno
        by_cases hjk:j=k
        · subst hjk;exact hjun
        · rw[getD_set_ne true hjk] at hun;exact hun
      obtain⟨v,rfl,hv⟩:=hst;have lj:∀ v,loc oj.op (s.1.put oi.dst v)=loc oj.op s.1:=fun v=>ia (dT h1)
      have li:∀ v,loc oi.op (s.1.put oj.dst v)=loc oi.op s.1:=fun v=>ia (dT h3)
      have gj:∀ v,gG ops oj (s.1.put oi.dst v)=gG ops oj s.1:=fun v=>km h1
      have gi:∀ v,gG ops oi (s.1.put oj.dst v)=gG ops oi s.1:=fun v=>km h3
      have hvi:∀ u,(gG ops oi (s.1.put oj.dst u)=some true/\∀ H n,cN H n->aW P N oi (loc oi.op (s.1.put oj.dst u)) H n (xm v H n))\/(gG ops oi (s.1.put oj.dst u)=some false/\v=o7):=fun u=>by
        rw[gi,li];exact hv
      rcases hbr with ⟨hjh,_,s'',⟨u,rfl,hu⟩,hrest⟩ | ⟨hjh,hgj,post,hoq,hrest⟩
      · simp only[lj,gj] at hu
        refine⟨oj,hoj,.inl ⟨hjh,hS,_,⟨u,rfl,hu⟩,ih (listed.setIfInBounds j true) (s.1.put oj.dst u,s.2) ((s.1.put oj.dst u).put oi.dst v,s.2) hinv' hfree' (ready_mono hr (Ne.symm hji)) hS ⟨v,rfl,hvi u⟩ ?_⟩⟩;rw[Array.setIfInBounds_comm _ _ hji,<- put_comm v u h2];exact hrest
      · simp only[lj,gj] at hoq hgj
        refine⟨oj,hoj,.inr ⟨hjh,hgj,post,hoq,fun u H' n' hp=>?_⟩⟩;obtain⟨hS',hrest'⟩:=hrest u H' n' hp;refine⟨hS',?_⟩;have hlate:iM ops ba j=false:=by
          rw[Bool.eq_false_iff];intro hl;have:=List.all_eq_true.1 hl i (List.mem_range.2 (Array.getElem?_eq_some_iff.1 hi).1);simp only[Bool.or_eq_true,List.contains_iff_mem] at this;exact this.elim hih hnot
        refine ih (listed.setIfInBounds j true) (s.1.put oj.dst u,H',n') ((s.1.put oj.dst u).put oi.dst v,H',n') hinv' hfree' (ready_mono hr (Ne.symm hji)) (hS' hlate) ⟨v,rfl,hvi u⟩ ?_;rw[Array.setIfInBounds_comm _ _ hji,<- put_comm v u h2];exact hrest'
theorem RunT.alt {R:AS->Prop} {s:AS} {listed:Array Bool} {j:Nat}:∀ {t:kW},RunT P N ops cN ba R t s->vu ops ba t listed=true->j ∈ t.alts->j ∈ ba/\∃ t',t'.depth+1<=t.depth/\wG ops t' (listed.setIfInBounds j true)=true/\vu ops ba t' (listed.setIfInBounds j true)=true/\sk P N ops cN ba (RunT P N ops cN ba R t') j s
  | .ba i t a,h,hl,hj=>by
    simp only[vu,Bool.and_eq_true,List.contains_iff_mem] at hl;rcases List.mem_cons.1 hj with rfl | hj
    · exact⟨hl.1.1.1,t,by simp only[kW.depth];omega,hl.1.1.2,hl.1.2,h.1⟩
    · obtain⟨h1,t',h2,h3⟩:=RunT.alt (t:=a) h.2 hl.2 hj
      exact⟨h1,t',by simp only[kW.depth];omega,h3⟩
  | .fin,_,_,hj=>by cases hj
  | .stop,_,_,hj=>by cases hj
  | .free _ _,_,_,hj=>by cases hj
theorem lu.none {R:AS->Prop} {fuel:Nat} {listed:Array Bool} {s:AS} (h:Region.ready .any ops listed=[]) (hR:R s):lu P N ops cN ba R fuel listed s:=by
  cases fuel with
  | zero=>exact⟨h,hR⟩
  | succ fuel=>exact⟨fun _=>hR,fun i hi=>by rw[h] at hi;cases hi⟩
theorem lu.lex {R:AS->Prop}:∀ (fuel:Nat) (t:kW) (listed:Array Bool) (s:AS),t.depth<=fuel->wG ops t listed=true->vu ops ba t listed=true->RunT P N ops cN ba R t s->lu P N ops cN ba R fuel listed s
  | _,.fin,listed,s,_,_,hB,h=>lu.none (by simpa[vu] using hB) h
  | _,.stop,_,_,_,E,_,_=>by cases E
  | 0,.free i t,_,_,hd,_,_,_=>by simp[kW.depth] at hd
  | fuel+1,.free i t,listed,s,hd,_,hB,⟨o,ho,hS,s',hst,hrest⟩=>by
    simp only[vu,Bool.and_eq_true,Bool.not_eq_true',List.contains_iff_mem] at hB;obtain⟨⟨⟨⟨h1,h2⟩,h3⟩,h4⟩,h5⟩:=hB;obtain⟨f1,f2,f3⟩:=pE ho h3;exact lu.first ho (by simpa using h1) f1 fuel listed s s' f2 (fun j oj h1 h2 h3 h4=>(f3 j oj h1 h2 h3 h4).1) h2 hS hst (lu.lex fuel t _ _ (by simp only[kW.depth] at hd;omega) h4 h5 hrest)
  | 0,.ba i t a,_,_,hd,_,_,_=>by simp only[kW.depth] at hd;omega
  | fuel+1,.ba i t a,listed,s,hd,E,hB,h=>by
    simp only[wG,Bool.and_eq_true,Bool.not_eq_true',List.isEmpty_eq_false_iff] at E;refine⟨fun h=>absurd h E.1,fun j hj=>?_⟩;have hja:j ∈ (kW.ba i t a).alts:=by
      have:=List.all_eq_true.1 E.2 j hj;simpa using this
    obtain⟨hjh,t',hd',h1,h2,o,ho,hg,post,hop,hrest⟩:=RunT.alt h hB hja;exact⟨o,ho,.inr ⟨hjh,hg,post,hop,fun v H' n' hp=>⟨(hrest v H' n' hp).1,lu.lex fuel t' _ _ (by omega) h1 h2 (hrest v H' n' hp).2⟩⟩⟩
theorem lu.sound {R:AS->Prop} (hN:ops.toList.all (fun o=>eF N o.dst)=true) {Q:Exit->Act->World->Prop} {c0:Ctx} (hQ:∀ a c O,bG c0 c->Good c->dy N c O a->R (O,c.H,c.n)->Q .normal a c.w) :
    ∀ (fuel:Nat) (listed:Array Bool) (O:Env) (c:Ctx) (a:Act),bG c0 c->Good c->dy N c O a->lu P N ops cN ba R fuel listed (O,c.H,c.n)->wpAny P .any ops Q fuel listed a c.w
  | 0,_,_,_,_,hk,g,r,h=>⟨h.1,hQ _ _ _ hk g r h.2⟩
  | fuel+1,listed,O,c,a,hk,g,r,h=>by
    refine⟨fun h0=>hQ _ _ _ hk g r (h.1 h0),fun i hi=>?_⟩;obtain⟨o,ho,hbr⟩:=h.2 i hi;have hd:eF N o.dst=true:=List.all_eq_true.1 hN o (by rw[<- Array.getElem?_toList] at ho;exact List.mem_of_getElem? ho);unfold wpOp;simp only[ho];rcases hbr with ⟨_,hS,s',⟨v,rfl,⟨hg,hop⟩ | ⟨hg,rfl⟩⟩,hrest⟩ | ⟨_,hg,post,hop,hrest⟩
    · rw[if_pos (cA r hN hg)]
      refine .inl (hop c.H c.n hS c a rfl rfl g (r.loc o.op) _ _ ?_);rintro v1 x c' ⟨rfl,hH,hn⟩ hrep hgood hkeep;exact lu.sound hN hQ fuel _ _ c' _ (hk.trans hkeep) hgood ((r.keeps hkeep).put hd hrep) (by rw[hH,hn];exact hrest)
    · rw[if_neg (by rw[cA r hN hg];simp)]
      exact lu.sound hN hQ fuel _ _ c _ hk g (r.put hd (.v _)) hrest
    · rw[if_pos (cA r hN hg)]
      refine .inl (hop c a rfl rfl g (r.loc o.op) _ _ ?_);rintro v1 x c' hpost hrep hgood hkeep;exact lu.sound hN hQ fuel _ _ c' _ (hk.trans hkeep) hgood ((r.keeps hkeep).put hd hrep) (hrest v1 c'.H c'.n hpost).2
end
section
variable {P:Program} {f:FuncId} {N:Nat} {k:List Item} {O:Env} {H:ax} {n:Nat} {Q:au->ax->Nat->Prop}
def atS (aj:Env->ax->Nat->Prop):AS->Prop:=fun s=>aj s.1 s.2.1 s.2.2
theorem J.Hx (cN:ax->Nat->Prop) (ba:List Nat) (t:kW) (aj:Env->ax->Nat->Prop) {id:Nat} {ops:List Oper} (hm:P.follows .mixedOrders=true) (hN:ops.all (fun o=>eF N o.dst)=true) (hB:Ab.GW ops.toArray ba t=true)
    (h:RunT P N ops.toArray cN ba (atS aj) t (O,H,n)) (hR:∀ O H n,aj O H n->J P f N k O H n Q):J P f N (.code (.region id ops.toArray true)::k) O H n Q:=by
  intro c a hH hn g r b cs hf hk;subst hH;subst hn;obtain⟨d1,d2⟩:=jU g;simp only[Ab.GW,Bool.and_eq_true,decide_eq_true_eq] at hB;have hany:=lu.lex (P:=P) (N:=N) (cN:=cN) (ba:=ba) (ops:=ops.toArray) ops.toArray.size t (Array.replicate ops.toArray.size false) (O,c.H,c.n) hB.2 hB.1.1 hB.1.2 h;have hw:(Code.region id ops.toArray true).wp P (fun e a' w'=>e = .normal/\∃ c' ρ',c'.w=w'/\bG c c'/\Good c'/\dy N c' ρ' a'/\J P f N k ρ' c'.H c'.n Q) a c.w:=by
    refine wp_region_any hm ?_;have:=lu.sound (P:=P) (N:=N) (cN:=cN) (ba:=ba) (ops:=ops.toArray) (c0:=c) (by simpa using hN) (Q:=fun e a' w'=>e = .normal/\∃ c' ρ',c'.w=w'/\bG c c'/\Good c'/\dy N c' ρ' a'/\J P f N k ρ' c'.H c'.n Q)
      (R:=atS aj) (fun a' c' ρ' V hg' hr' hR'=>⟨rfl,c',ρ',rfl,V,hg',hr',hR _ _ _ hR'⟩) ops.toArray.size (Array.replicate ops.toArray.size false) O { c with w:={ c.w with drawn:=c.w.drawn+1 } } a d1 d2 (r.keeps d1) hany
    simpa using this
  obtain⟨e,a',w',⟨rfl,c',ρ',rfl,V,hg',hr',hR⟩,harr⟩:=hw b k cs;obtain⟨x,v,c'',fr,q,hr,hg,hke,hst,rest⟩:=hR c' a' rfl rfl hg' hr' b cs hf hk;exact⟨x,v,c'',fr,q,hr,hg,V.trans hke,Steps.trans harr hst,rest⟩
theorem J.seqC (cN:ax->Nat->Prop) (ba:List Nat) (t:kW) (aj:Env->ax->Nat->Prop) {id:Nat} {ops:List Oper} {y:Code} (hm:P.follows .mixedOrders=true) (hN:ops.all (fun o=>eF N o.dst)=true) (hB:Ab.GW ops.toArray ba t=true)
    (h:RunT P N ops.toArray cN ba (atS aj) t (O,H,n)) (hR:∀ O H n,aj O H n->J P f N (.code y::k) O H n Q):J P f N (.code (.seq (.region id ops.toArray true) y)::k) O H n Q:=
  J.seq (J.Hx cN ba t aj hm hN hB h hR)
end
section
variable {P:Program} {N:Nat} {ops:Array Oper} {cN:ax->Nat->Prop} {ba:List Nat} {R:AS->Prop} {O:Env} {H:ax} {n:Nat} {i:Nat} {l:kW} {Ty:Types}
theorem RunT.fin {aj:Env->ax->Nat->Prop} (h:aj O H n):RunT P N ops cN ba (atS aj) .fin (O,H,n):=h
theorem RunT.free {o:Oper} (v:au) (ho:ops.toList[i]?=some o) (hg:gG ops o O=some true) (hS:cN H n) (hop:∀ H n,cN H n->aW P N o (loc o.op O) H n (xm v H n)) (h:RunT P N ops cN ba R l (O.put o.dst v,H,n)):RunT P N ops cN ba R (.free i l) (O,H,n):=
  ⟨o,by rw[<- Array.getElem?_toList];exact ho,hS,_,⟨v,rfl,.inl ⟨hg,hop⟩⟩,h⟩
theorem RunT.I1 {o:Oper} (post:au->ax->Nat->Prop) (ho:ops.toList[i]?=some o) (hg:gG ops o O=some true) (hop:aW P N o (loc o.op O) H n post) (h:∀ v H' n',post v H' n'->(iM ops ba i=false->cN H' n')/\RunT P N ops cN ba R l (O.put o.dst v,H',n')):sk P N ops cN ba (RunT P N ops cN ba R l) i (O,H,n):=
  ⟨o,by rw[<- Array.getElem?_toList];exact ho,hg,post,hop,h⟩
theorem RunT.step (hT:bg P Ty) {o:Oper} {v:au} {H':ax} {n':Nat} (ho:ops.toList[i]?=some o) (hg:gG ops o O=some true) (hs:bl Ty o.dst o.op O H n=some (v,H',n')) (hS:iM ops ba i=false->cN H' n') (h:RunT P N ops cN ba R l (O.put o.dst v,H',n')):sk P N ops cN ba (RunT P N ops cN ba R l) i (O,H,n):=
  RunT.I1 (xm v H' n') ho hg (aL hT (by rw[aJ];exact hs)) (by rintro _ _ _ ⟨rfl,rfl,rfl⟩;exact⟨hS,h⟩)
theorem RunT.same (hT:bg P Ty) {o:Oper} {v:au} (ho:ops.toList[i]?=some o) (hg:gG ops o O=some true) (hs:bl Ty o.dst o.op O H n=some (v,H,n)) (hS:iM ops ba i=false->cN H n) (h:RunT P N ops cN ba R l (O.put o.dst v,H,n)):sk P N ops cN ba (RunT P N ops cN ba R l) i (O,H,n):=
  RunT.step hT ho hg hs hS h
theorem wO {d:Operand} {args:Array Operand} {ats:Array TypeId}:args.toList.map (loc (.call ⟨.value d,args,ats⟩) O).ev=args.toList.map O.ev/\(loc (.call ⟨.value d,args,ats⟩) O).ev d=O.ev d:=
  ⟨List.map_congr_left fun x hx=>fL (by simp[Op.operands,Call.operands];exact .inr (by simpa using hx)),fL (by simp[Op.operands,Call.operands])⟩
theorem RunT.ik {K:List cm} {ids:List Id} {d:Option Tmp} {g:Operand} {args:Array Operand} {ats:Array TypeId} {ty:TypeId} {pos:String} {af:Array Edge} {gu:Option (Nat × Bool)} {R':au->Prop} {f':FuncId} {as1 cU:List au} {sh:Sh}
    (ho:ops.toList[i]?=some ⟨d,.call ⟨.value g,args,ats⟩,ty,pos,af,gu⟩) (hgu:gG ops ⟨d,.call ⟨.value g,args,ats⟩,ty,pos,af,gu⟩ O=some true) (h:bn P f' cU sh R') (dK:a8 P f') (ha:bV H n as1 cU) (hs:Sep H n K ids) (hg:O.ev g = .fn (.func f') [] []) (has:args.toList.map O.ev=as1)
    (hk:∀ v H1 U r,Sep H1 U ((sh,v,r)::K) ids->R' r->n<=U->(∀ i ∈ ids,H1 i=H i)->(iM ops ba i=false->cN H1 U)/\RunT P N ops cN ba R l (O.put d v,H1,U)) :
    sk P N ops cN ba (RunT P N ops cN ba R l) i (O,H,n):=
  RunT.I1 _ ho hgu (aW.ik (by rw[wO.2];exact hg) dK (by rw[wO.1,has];exact ha) h hs) fun v H' n' ⟨r,h1,h2,h3,h4⟩=>hk v H' n' r h1 h2 h3 h4
theorem RunT.append (hT:bg P Ty) {d:Nat} {t:TypeId} {j:TI} {s x:Operand} {ty:TypeId} {pos:String} {af:Array Edge} {gu:Option (Nat × Bool)} {v xv:au} {l':List Sh} {es:List (List au)} {ids:List Id} (K1 K2:List cm) (add adds:List (List au))
    (ho:ops.toList[i]?=some ⟨some d,.call ⟨.builtin .append,#[s,x],#[t,t]⟩,ty,pos,af,gu⟩) (hgu:gG ops ⟨some d,.call ⟨.builtin .append,#[s,x],#[t,t]⟩,ty,pos,af,gu⟩ O=some true) (hsv:O.ev s=v) (hxv:O.ev x=xv) (h:Sep H n ((.s l',v,.list true es)::(K1++K2)) ids) (hk:kd Ty t = .slice j) (hj:j.size=l'.length) (hz:j.zero.length=j.size/\j.bytes<=131072)
    (hx:cb H xv=some add) (ho1:add.all (fun e=>e.all Ab.aH)=true) (hadd:∀ S,Row H (K1.map (·.1)) (K1.map (·.2.1)) (K1.map (·.2.2)) S->bL (Row H l') add adds S) (hne:adds ≠ []) (hlen:es.length+adds.length<=1073741824)
    (hc:∀ v' H' n',Sep H' n' ((.s l',v',.list true (es++adds))::K2) ids->(∀ i ∈ ids,H' i=H i)->n<=n'->(iM ops ba i=false->cN H' n')/\RunT P N ops cN ba R l (O.put (some d) v',H',n')):sk P N ops cN ba (RunT P N ops cN ba R l) i (O,H,n):=by
  obtain⟨v',H',n',h1,h2,h3,h4⟩:=Sep.append (d:=d) h hk hj hz hx ho1 hadd hne hlen;obtain⟨q1,q2⟩:=hc v' H' n' h2 h3 h4;refine RunT.step hT ho hgu ?_ q1 q2;show (if t=t then bb Ty (some d) t (O.ev s) (O.ev x) H n else none)=_;rw[if_pos rfl,hsv,hxv,h1]
theorem RunT.eu (hT:bg P Ty) {d:Nat} {t:TypeId} {j:TI} {s x:Operand} {ty:TypeId} {pos:String} {af:Array Edge} {gu:Option (Nat × Bool)} {v xv:au} {l':List Sh} {es:List (List au)} {K:List cm} {ids:List Id} (add:List (List au))
    (ho:ops.toList[i]?=some ⟨some d,.call ⟨.builtin .append,#[s,x],#[t,t]⟩,ty,pos,af,gu⟩) (hgu:gG ops ⟨some d,.call ⟨.builtin .append,#[s,x],#[t,t]⟩,ty,pos,af,gu⟩ O=some true) (hsv:O.ev s=v) (hxv:O.ev x=xv) (h:Sep H n ((.s l',v,.list true es)::K) ids) (hf:∀ t ∈ l',t = .c) (hk:kd Ty t = .slice j) (hj:j.size=l'.length) (hz:j.zero.length=j.size/\j.bytes<=131072)
    (hx:cb H xv=some add) (ho1:∀ e ∈ add,e.length=l'.length/\∀ a ∈ e,b4 a/\Ab.aH a=true) (hlen:es.length+add.length<=1073741824)
    (hc:∀ v' H' n',Sep H' n' ((.s l',v',.list true (es++add))::K) ids->(∀ i ∈ ids,H' i=H i)->n<=n'->(iM ops ba i=false->cN H' n')/\RunT P N ops cN ba R l (O.put (some d) v',H',n')):sk P N ops cN ba (RunT P N ops cN ba R l) i (O,H,n):=by
  obtain⟨v',H',n',h1,h2,h3,h4⟩:=Sep.eu (d:=d) h hf hk hj hz hx ho1 hlen;obtain⟨q1,q2⟩:=hc v' H' n' h2 h3 h4;refine RunT.step hT ho hgu ?_ q1 q2;show (if t=t then bb Ty (some d) t (O.ev s) (O.ev x) H n else none)=_;rw[if_pos rfl,hsv,hxv,h1]
end
end Go.Ab
namespace Go.Ab
open Go.Proofs Go.RowKit
abbrev vW (l:List Int):au:=.list true (l.map fun s=>[int s])
theorem sf {c:Ctx} (g:Good c) {id:Id} {ss ss':List Int} (ho:c.H id=some ⟨1,ss.map fun s=>[int s]⟩) (hl:ss'.length=ss.length) (off:Nat) (dE:off=0\/ss'=[]) (m:Nat) (os:Array Obj) :
    let c':Ctx:={ c with H:=c.H.set id ⟨1,ss'.map fun s=>[int s]⟩,w:=Sort.grow (Sort.putRow (Value.int .i64) (Sort.ahead c.w m) (c.β id) off ss'.toArray) os }
    bG c c'/\Good c':=by
  intro c';obtain⟨hB,cl,el,E,hsz,hel⟩:=g.obj id _ ho;simp only[List.length_map,Nat.mul_one] at hsz;have hnew:(Sort.putRow (Value.int .i64) (Sort.ahead c.w m) (c.β id) off ss'.toArray).heap[c.β id]?=some (.cells (Sort.putCells (Value.int .i64) off ss'.toArray cl) el (0,0)):=by
    simp only[Sort.putRow,Sort.mapBlock,Sort.ahead,Array.getElem?_modify,E];simp[Sort.onCells]
  have hoth:∀ k,k ≠ c.β id->(Sort.putRow (Value.int .i64) (Sort.ahead c.w m) (c.β id) off ss'.toArray).heap[k]?=c.w.heap[k]?:=fun k hk=>by
    simp only[Sort.putRow,Sort.mapBlock,Sort.ahead,Array.getElem?_modify];rw[if_neg (Ne.symm hk)]
  obtain⟨k1,g1⟩:=lz g ho ⟨1,ss'.map fun s=>[int s]⟩ (Sort.putRow (Value.int .i64) (Sort.ahead c.w m) (c.β id) off ss'.toArray) cl (Sort.putCells (Value.int .i64) off ss'.toArray cl) el el ⟨rfl,rfl,rfl⟩ (by simp[Sort.ahead]) E hoth hnew
    (by simp[Sort.putCells]) rfl (by simp[hl]) (by
      refine⟨by simp[Sort.putCells];omega,fun i e he=>?_⟩;rw[List.getElem?_map] at he;obtain⟨s,hs,rfl⟩:=Option.map_eq_some_iff.1 he;refine⟨rfl,fun j a ha=>?_⟩;have hi:i<ss'.length:=(List.getElem?_eq_some_iff.1 hs).1;have ho0:off=0:=dE.elim (fun h=>h) fun h=>by subst h;simp at hi
      subst ho0
      match j,ha with
      | 0,ha=>
        simp only[List.getElem?_cons_zero,Option.some.injEq] at ha;subst ha;refine⟨(Value.int .i64) s,?_,.v _⟩;rw[lW];have hic:i<cl.size:=by omega
        simp only[Nat.mul_one,Nat.add_zero,Array.getElem?_eq_getElem hic,Option.map_some,Nat.zero_le,true_and,Nat.zero_add,Nat.sub_zero,List.size_toArray,hi,if_true,Option.some.injEq];have:ss'.toArray[i]! = s:=by
          obtain⟨h1,h2⟩:=List.getElem?_eq_some_iff.1 hs;simp[h1,h2]
        rw[this]
      | j+1,ha=>simp at ha)
  obtain⟨k2,g2⟩:=dg g1 c'.w ⟨rfl,rfl,rfl⟩ (by simp[c']) fun k hk=>Sort.heap_grow_old _ _ hk
  exact⟨k1.trans k2,g2⟩
theorem ep.sortI {P:Program} {f:FuncId} {ss:List Int} (hlen:ss.length<4611686018427387904)
    (hs:∀ (blk off cap:Nat) (w:World),Sort.Holds (Value.int .i64) w blk off ss.toArray->blk<w.heap.size->Calls P f #[.slice (some ⟨blk,off,none⟩) ss.length cap] w fun e w'=>
      e = .returned (.tuple #[])/\∃ n os,w'=Sort.grow (Sort.putRow (Value.int .i64) (Sort.ahead w n) blk off (ss.mergeSort fun x y=>decide (x<=y)).toArray) os)
    (hnil:∀ w:World,Calls P f #[.slice none 0 0] w fun e w'=>e = .returned (.tuple #[])/\Below w.heap.size w w') :
    ep P f (fun v=>[v]) (.s [.c]) (vW ss) (fun e r=>e=vW (ss.mergeSort fun x y=>decide (x<=y))/\r = .tup []):=by
  intro H n v K ids hsep c xs hH hn g r;subst hH hn;obtain⟨x,rfl,hx⟩:∃ x,xs=[x]/\cn c v x:=by
    obtain⟨hl,hr⟩:=r
    match xs,hl with
    | [x],_=>exact⟨x,rfl,hr 0 v x rfl rfl⟩
  obtain⟨h0,S,h1,h2⟩:=hsep;simp only[List.map_cons,Row,Tr] at h1;obtain⟨S1,S2,h3,h4,rfl,h5⟩:=h1;rcases h3 with ⟨rfl,e,rfl⟩ | ⟨id,els,es',T,rfl,he,q3,q4,q5,rfl⟩
  · have hss:ss=[]:=by simpa[vW] using e
    subst hss;rw[hx.cd];refine (hnil c.w).mono ?_;rintro e w' ⟨rfl,hb⟩;obtain⟨hk,hg⟩:=dg g w' ⟨hb.os,hb.tape,hb.output⟩ hb.size hb.block;refine⟨_,.tup [],{ c with w:=w' },rfl,rfl,⟨_,⟨rfl,rfl⟩,⟨h0,_,?_,h2⟩,fun _ _=>rfl,Nat.le_refl _⟩,.tup [] [] rfl (by simp),hg,hk⟩;simp only[List.map_cons,Row,Tr];exact⟨[],S2,.inl (by simp[vW]),h4,rfl,by simp⟩
  · simp only[vW,au.list.injEq,true_and] at he
    subst he;obtain⟨rfl,rfl⟩:=jM (by simp) q4;have hm:(ss.mergeSort fun x y=>decide (x<=y)).length=ss.length:=List.length_mergeSort ss;have q3':c.H id=some ⟨1,ss.map fun s=>[int s]⟩:=q3;have hcell:∀ i s,ss[i]?=some s->c.w.cell? ⟨c.β id,i,none⟩=some ((Value.int .i64) s):=fun i s hi=>by
      obtain⟨x,h1,h2⟩:=g.cell q3' (i:=i) (j:=0) (e:=[int s]) (a:=int s) (by rw[List.getElem?_map,hi];rfl) rfl;rw[h2.cd] at h1;simpa using h1
    cases hx with
    | arr _ _ _ _ _ _ hn hg h=>
      obtain⟨hle,a,cap,rfl,hab,hsp,hlc,dE,hcl⟩:=h _ q3' (by simp);obtain⟨bk,off,M⟩:=a;simp only at hab hsp;subst hab hsp;have hz:off=0\/ss=[]:=by
        rcases dE with h | h
        · left;simpa using h
        · right;simpa[h] using hlc
      have hz':off=0\/(ss.mergeSort fun x y=>decide (x<=y))=[]:=hz.imp_right fun h=>by subst h;simp
      have hbk:c.β id<c.w.heap.size:=g.lt q3';have key:=hs (c.β id) off cap c.w (fun j hj=>by
        have hj':j<ss.length:=by simpa using hj
        have h0:off=0:=hz.elim (fun h=>h) fun h=>by subst h;simp at hj'
        subst h0;refine⟨?_,g.frozen q3' _⟩;rw[Nat.zero_add,hcell j ss[j] (List.getElem?_eq_getElem hj')];simp[hj']) hbk
      simp only[List.length_map] at *;apply key.mono;rintro e w' ⟨rfl,m,os,rfl⟩;obtain⟨hk,hg'⟩:=sf g q3' hm off hz' m os;refine⟨_,.tup [],{ c with H:=c.H.set id ⟨1,(ss.mergeSort fun x y=>decide (x<=y)).map fun s=>[int s]⟩,w:=Sort.grow (Sort.putRow (Value.int .i64) (Sort.ahead c.w m) (c.β id) off (ss.mergeSort fun x y=>decide (x<=y)).toArray) os },rfl,rfl,⟨_,⟨rfl,rfl⟩,⟨h0,id::S2,?_,?_⟩,fun i hi=>?_,Nat.le_refl _⟩,.tup [] [] rfl (by simp),hg',hk⟩
      · simp only[List.map_cons,Row,Tr]
        refine⟨[id],S2,.inr ⟨id,(ss.mergeSort fun x y=>decide (x<=y)).map fun s=>[int s],(ss.mergeSort fun x y=>decide (x<=y)).map fun s=>[int s],[],by simp[hm],rfl,?_,?_,by simp,rfl⟩,h4.frame fun i hi=>?_,rfl,?_⟩
        · exact ax.bS _ _ _
        · exact bL.wD (by simp[int,flat]) (by simp)
        · exact ax.aY _ _ (by rintro rfl;exact h5 i (by simp) hi)
        · intro i hi;exact h5 i (by simpa using hi)
      · intro i hi;exact h2 i (by simpa using hi)
      · exact ax.aY _ _ (by rintro rfl;exact (h2 i (by simp)).2 hi)
theorem qe.He {P:Program} {f:FuncId} {ss ss':List Int} (hle:ss'.length<=ss.length)
    (hs:∀ (blk off cap:Nat) (w:World),Sort.Holds (Value.int .i64) w blk off ss.toArray->ss.length<=cap->Calls P f #[.slice (some ⟨blk,off,none⟩) ss.length cap] w fun e w'=>
      e = .returned (.slice (some ⟨blk,off,none⟩) ss'.length cap)/\∃ q,w'=Sort.putRow (Value.int .i64) (Sort.ahead w q) blk off (ss'++List.replicate (ss.length - ss'.length) 0).toArray)
    (hnil:ss=[]->∀ w:World,Calls P f #[.slice none 0 0] w fun e w'=>e = .returned (.slice none 0 0)/\w'=w) :
    qe P f (fun v=>[v]) (.s [.c]) (vW ss) (.s [.c]) (fun e=>e=vW ss'):=by
  intro H n v K ids hsep c xs hH hn g r;subst hH hn;obtain⟨x,rfl,hx⟩:∃ x,xs=[x]/\cn c v x:=by
    obtain⟨hl,hr⟩:=r
    match xs,hl with
    | [x],_=>exact⟨x,rfl,hr 0 v x rfl rfl⟩
  obtain⟨h0,S,h1,h2⟩:=hsep;simp only[List.map_cons,Row,Tr] at h1;obtain⟨S1,S2,h3,h4,rfl,h5⟩:=h1;rcases h3 with ⟨rfl,e,rfl⟩ | ⟨id,els,es',T,rfl,he,q3,q4,q5,rfl⟩
  · have hss:ss=[]:=by simpa[vW] using e
    subst hss;have hss':ss'=[]:=List.eq_nil_of_length_eq_zero (by simpa using hle);subst hss';rw[hx.cd];refine (hnil rfl c.w).mono ?_;rintro e w' ⟨rfl,rfl⟩;refine⟨_,.v (.slice none 0 0),c,rfl,rfl,⟨_,rfl,⟨h0,_,?_,h2⟩,fun _ _=>rfl,Nat.le_refl _⟩,.v _,g,bG.refl c⟩;simp only[List.map_cons,Row,Tr];exact⟨[],S2,.inl (by simp[vW]),h4,rfl,by simp⟩
  · simp only[vW,au.list.injEq,true_and] at he
    subst he;obtain⟨rfl,rfl⟩:=jM (by simp) q4;have q3':c.H id=some ⟨1,ss.map fun s=>[int s]⟩:=q3;have hcell:∀ i s,ss[i]?=some s->c.w.cell? ⟨c.β id,i,none⟩=some ((Value.int .i64) s):=fun i s hi=>by
      obtain⟨x,h1,h2⟩:=g.cell q3' (i:=i) (j:=0) (e:=[int s]) (a:=int s) (by rw[List.getElem?_map,hi];rfl) rfl;rw[h2.cd] at h1;simpa using h1
    cases hx with
    | arr _ _ _ _ _ _ hn hg h=>
      obtain⟨hle1,a,cap,rfl,hab,hsp,hlc,dE,hcl⟩:=h _ q3' (by simp);obtain⟨bk,off,M⟩:=a;simp only at hab hsp;subst hab hsp;have hz:off=0\/ss=[]:=by
        rcases dE with h | h
        · left;simpa using h
        · right;simpa[h] using hlc
      have hbk:c.β id<c.w.heap.size:=g.lt q3';have hm:(ss'++List.replicate (ss.length - ss'.length) (0:Int)).length=ss.length:=by simp;omega
      have hz':off=0\/(ss'++List.replicate (ss.length - ss'.length) (0:Int))=[]:=hz.imp_right fun h=>by
        subst h;exact List.eq_nil_of_length_eq_zero (by rw[hm];rfl)
      have key:=hs (c.β id) off cap c.w (fun j hj=>by
        have hj':j<ss.length:=by simpa using hj
        have h0:off=0:=hz.elim (fun h=>h) fun h=>by subst h;simp at hj'
        subst h0;refine⟨?_,g.frozen q3' _⟩;rw[Nat.zero_add,hcell j ss[j] (List.getElem?_eq_getElem hj')];simp[hj']) (by simpa using hlc)
      simp only[List.length_map] at *;apply key.mono;rintro e w' ⟨rfl,q,rfl⟩;obtain⟨hk,hg'⟩:=sf g q3' hm off hz' q #[];have hgr:Sort.grow (Sort.putRow (Value.int .i64) (Sort.ahead c.w q) (c.β id) off (ss'++List.replicate (ss.length - ss'.length) (0:Int)).toArray) #[]=Sort.putRow (Value.int .i64) (Sort.ahead c.w q) (c.β id) off (ss'++List.replicate (ss.length - ss'.length) (0:Int)).toArray:=by
        simp[Sort.grow]
        rfl
      rw[hgr] at hk hg';generalize hc1:({ c with H:=c.H.set id ⟨1,(ss'++List.replicate (ss.length - ss'.length) (0:Int)).map fun s=>[int s]⟩,w:=Sort.putRow (Value.int .i64) (Sort.ahead c.w q) (c.β id) off (ss'++List.replicate (ss.length - ss'.length) (0:Int)).toArray }:Ctx)=c1 at hk hg';have hH1:c1.H id=some ⟨1,(ss'++List.replicate (ss.length - ss'.length) (0:Int)).map fun s=>[int s]⟩:=by rw[<- hc1];exact ax.bS _ _ _
      have hHo:∀ j,j ≠ id->c1.H j=c.H j:=fun j hj=>by rw[<- hc1];exact ax.aY _ _ hj
      have hn1:c1.n=c.n:=by rw[<- hc1]
      have hb1:c1.β=c.β:=by rw[<- hc1]
      have hw1:c1.w=Sort.putRow (Value.int .i64) (Sort.ahead c.w q) (c.β id) off (ss'++List.replicate (ss.length - ss'.length) (0:Int)).toArray:=by rw[<- hc1]
      have htk:((ss'++List.replicate (ss.length - ss'.length) (0:Int)).map fun s=>[int s]).take ss'.length=ss'.map fun s=>[int s]:=by
        rw[<- List.map_take,List.take_left]
      obtain⟨hk2,hg2⟩:=DN hg' hH1 ss'.length 0 (by simp);simp only[htk] at hk2 hg2;generalize hc2:({ c1 with H:=fun j=>if j=(c1.n,0) then some ⟨1,ss'.map fun s=>[int s]⟩ else if j=id then none else c1.H j,β:=fun j=>if j=(c1.n,0) then c1.β id else c1.β j,n:=c1.n+1 }:Ctx)=c2 at hk2 hg2;have hH2:c2.H (c.n,0)=some ⟨1,ss'.map fun s=>[int s]⟩:=by rw[<- hc2,<- hn1];simp
      have hidn:id.1<c.n:=hn;have hHo2:∀ j:Id,j ≠ id->j.1<c.n->c2.H j=c.H j:=fun j hj hlt=>by
        rw[<- hc2,<- hHo j hj];simp only;rw[if_neg (by rintro rfl;rw[hn1] at hlt;simp at hlt),if_neg hj]
      have hn2:c2.n=c.n+1:=by rw[<- hc2,<- hn1]
      have hb2:c2.β (c.n,0)=c.β id:=by rw[<- hc2,<- hn1];simp[hb1]
      have hw2:c2.w=c1.w:=by rw[<- hc2]
      refine⟨_,.arr (c.n,0) ss'.length 0 ss'.length,c2,rfl,by rw[hw2,hw1],⟨_,rfl,⟨fun i hi=>by have:=h0 i hi;omega,(c.n,0)::S2,?_,fun i hi=>?_⟩,fun i hi=>hHo2 i (by rintro rfl;exact (h2 i (by simp)).2 hi) (h0 i hi),by omega⟩,?_,hg2,hk.trans hk2⟩
      · simp only[List.map_cons,Row,Tr]
        refine⟨[(c.n,0)],S2,.inr ⟨(c.n,0),ss'.map fun s=>[int s],ss'.map fun s=>[int s],[],by simp,rfl,hH2,bL.wD (by simp[int,flat]) (by simp),by simp,rfl⟩,h4.frame fun i hi=>?_,rfl,?_⟩
        · exact hHo2 i (by rintro rfl;exact h5 i (by simp) hi) (h2 i (by simp[hi])).1
        · intro i hi hm
          have:=(h2 i (by simp[hm])).1;simp at hi;subst hi;simp at this
      · rcases List.mem_cons.1 hi with rfl | hi
        · exact⟨by show c.n<c2.n;omega,fun hm=>by have:=h0 _ hm;simp at this⟩
        · have:=h2 i (by simp[hi]);exact⟨by omega,this.2⟩
      · refine .arr _ _ _ _ _ rfl (by show c.n<c2.n;omega) ?_ ?_
        · intro o ho
          rw[hH2] at ho;cases ho;simp
        · intro o ho _
          rw[hH2] at ho;cases ho;refine⟨by omega,_,_,rfl,by simp[hb2],rfl,by omega,?_,fun cl el fz E=>?_⟩
          · rcases dE with h | h
            · left;simpa using h
            · right;exact h
          · rw[hb2,hw2,hw1] at E
            obtain⟨_,cl0,el0,hh0,_⟩:=g.obj id _ q3';have hnew:(Sort.putRow (Value.int .i64) (Sort.ahead c.w q) (c.β id) off (ss'++List.replicate (ss.length - ss'.length) (0:Int)).toArray).heap[c.β id]?=some (.cells (Sort.putCells (Value.int .i64) off (ss'++List.replicate (ss.length - ss'.length) (0:Int)).toArray cl0) el0 (0,0)):=by
              simp only[Sort.putRow,Sort.mapBlock,Sort.ahead,Array.getElem?_modify,hh0];simp[Sort.onCells]
            rw[hnew] at E;cases E;have:=hcl cl0 _ (0,0) hh0;simpa[Sort.putCells] using this
def aC (b:Bool):List au:=[Ab.bool b]
theorem IY (l:List Bool):∀ e ∈ l.map aC,∀ a ∈ e,flat a=true:=by
  intro e he a ha;obtain⟨x,_,rfl⟩:=List.mem_map.1 he;simp only[aC,List.mem_cons,List.not_mem_nil,or_false] at ha;subst ha
  rfl
def gJ (n:Int):a6:=(Utf8.encode n).data.toList
theorem EM (n:Int):str (gJ n) = .v (.string (Utf8.encode n)):=by
  unfold gJ str
  congr 2
theorem zc {a b v:Int} (h : -2147483648<=a+b/\a+b<=2147483647) (hv:v=a+b):aw .add .i32 a b=some (.v (.int .i32 v)):=by
  subst hv;simp only[aw];have:IntKind.i32.wrap (a+b)=a+b:=by
    simp only[IntKind.wrap,IntKind.bits,IntKind.signed,Bool.true_and]
    split
    · rename_i h2
      simp at h2;omega
    · rename_i h2
      simp at h2;omega
  rw[this]
section
variable {P:Program} {f:FuncId} {N:Nat} {k:List Item} {Q:au->ax->Nat->Prop} {Ty:Types} {l:List Oper} {O:Env} {H:ax} {n:Nat} {d:Option Tmp} {ty:TypeId} {pos:String} {af:Array Edge} {gu:Option (Nat × Bool)}
theorem aW.gJ (hT:bg P Ty) {s t:TypeId} {i:TI} {x:Operand} {k1:IntKind} {a:Int} (hi:Ty s=some i) (hk:kd Ty t = .string) (hx:O.ev x = .v (.int k1 a)) :
    aW P N ⟨d,.convert s t x,ty,pos,af,gu⟩ O H n (xm (str (Ab.gJ a)) H n):=
  aW.pure fun c e _ _ r=>by
    have rx:=r.ev x;rw[hx] at rx;obtain⟨j,hj,hd⟩:=jq hk;have d1:=(hT s i hi).bP c.w;have d2:=(hT t j hj).bP c.w;rw[hd] at d2;rw[EM];exact⟨_,by simp[execOp,rx.cd,convert,d1,d2,Conv.intToString],.v _⟩
theorem bX.gJ (hT:bg P Ty) {ops:List Oper} {s t:TypeId} {i:TI} {x:Operand} {k1:IntKind} {a:Int} (hN:ops.all (fun o=>eF N o.dst)=true) (hl:(⟨d,.convert s t x,ty,pos,af,none⟩::l:List Oper).all (fun o=>eF N o.dst)=true) (hi:Ty s=some i) (hk:kd Ty t = .string) (hx:O.ev x = .v (.int k1 a))
    (h:cB P f N k Q Ty ops.toArray l (O.put d (str (Ab.gJ a))) H n):bX P f N k Q ops.toArray (⟨d,.convert s t x,ty,pos,af,none⟩::l) O H n:=
  bX.op hT hN hl rfl (aW.gJ hT hi hk hx) fun _ _ _ ⟨e1,e2,e3⟩=>by subst e1 e2 e3;exact h
end
end Go.Ab
namespace Go.Ab.Vg
abbrev lE (l:List Int):List Int × Unit:=(l.mergeSort fun x y=>decide (x<=y),())
abbrev gm (l:List Int):List Int:=Go.Lib.compact l
theorem sn (l:List Int):(gm l).length<=l.length:=by
  have h:(gm l).length<=(List.range l.length).length:=by
    simp only[gm,Go.Lib.compact,Go.Lib.compactUpTo,List.length_map];exact List.length_filter_le _ _
  simpa using h
theorem BV {l m:List Int} (hl:l.Pairwise (·<·)) (hm:m.Pairwise (·<·)) (h:∀ x,x ∈ l↔x ∈ m):l=m:=by
  have U:l.Nodup:=hl.imp fun h=>by omega
  have n2:m.Nodup:=hm.imp fun h=>by omega
  exact ((List.perm_ext_iff_of_nodup U n2).2 h).eq_of_pairwise (fun a b _ _ h h'=>by omega) hl hm
theorem jt {d:List Int} {j:Nat} (h:j<d.length):d.toArray[j]! = d[j]:=by simp[h]
theorem qw {d:List Int} (hd:d.Pairwise (·<=·)):∀ m,m<=d.length->(Go.Lib.compactUpTo d.toArray m).Pairwise (·<·)/\∀ x,x ∈ Go.Lib.compactUpTo d.toArray m↔x ∈ d.take m
  | 0,_=>by simp[Go.Lib.compactUpTo]
  | m+1,hm=>by
    obtain⟨h1,h2⟩:=qw hd m (by omega);have hm1:m<d.length:=by omega
    have htk:d.take (m+1)=d.take m++[d[m]]:=List.take_succ_eq_append_getElem hm1;rw[Go.Lib.compactUpTo_succ,htk]
    by_cases hk:Go.Lib.keeps d.toArray m=true
    · rw[if_pos hk]
      have hlt:∀ a ∈ d.take m,a<d[m]:=fun a ha=>by
        obtain⟨j,hj,rfl⟩:=List.getElem_of_mem ha;have hjm:j<m:=by simp at hj;omega
        rw[List.getElem_take];simp only[Go.Lib.keeps,decide_eq_true_eq] at hk;have hne:d[m] ≠ d[m - 1]:=by
          rcases hk with h | h
          · omega
          · rwa [jt hm1,jt (show m - 1<d.length by omega)] at h
        have hp:=List.pairwise_iff_getElem.1 hd;have h3:d[m - 1]<=d[m]:=hp (m - 1) m (by omega) hm1 (by omega);rcases Nat.lt_or_ge j (m - 1) with h5 | h5
        · have h6:=hp j (m - 1) (by omega) (by omega) h5
          omega
        · have:j=m - 1:=by omega
          subst this;omega
      refine⟨List.pairwise_append.2 ⟨h1,by simp,fun a ha b hb=>?_⟩,fun x=>?_⟩
      · simp only[List.mem_singleton,jt hm1] at hb
        subst hb;exact hlt a ((h2 a).1 ha)
      · simp only[List.mem_append,h2,jt hm1]
    · rw[if_neg hk,List.append_nil]
      refine⟨h1,fun x=>?_⟩;rw[h2,List.mem_append];refine⟨.inl,fun h=>h.elim id fun h=>?_⟩;simp only[Go.Lib.keeps,decide_eq_true_eq,not_or,Decidable.not_not] at hk;obtain⟨k0,k1⟩:=hk;rw[jt hm1,jt (show m - 1<d.length by omega)] at k1;simp only[List.mem_singleton] at h;subst h;rw[k1];exact List.mem_iff_getElem.2 ⟨m - 1,by simp;omega,by simp⟩
theorem qv (l:List Int):(gm (lE l).1).Pairwise (·<·)/\∀ x,x ∈ gm (lE l).1↔x ∈ l:=by
  have h3:(lE l).1.Pairwise (·<=·):=by
    have:=List.pairwise_mergeSort (le:=fun x y:Int=>decide (x<=y)) (fun a b c h1 h2=>by simp only[decide_eq_true_eq] at *;omega) (fun a b=>by simp;omega) l;simpa[lE] using this
  obtain⟨h1,h2⟩:=qw h3 (lE l).1.length (Nat.le_refl _);refine⟨h1,fun x=>(h2 x).trans ?_⟩;rw[List.take_length];exact List.mem_mergeSort
def im (k:Nat):a6:=122::gJ (97+k)
def zBack:a6->Nat
  | [_,a]=>a.toNat - 97
  | [_,a,b]=>(a.toNat - 192) * 64+(b.toNat - 128) - 97
  | _=>0
theorem uW:∀ k:Fin 64,zBack (im k)=k:=by decide
theorem Fx {i j:Nat} (hi:i<64) (hj:j<64) (h:im i=im j):i=j:=by
  have h1:=uW ⟨i,hi⟩;have h2:=uW ⟨j,hj⟩;simp only at h1 h2;rw[<- h1,<- h2,h]
def fk (outer:List a6) (k:Nat):List a6:=((List.range k).map im).filter fun s=>decide (s ∉ outer)
theorem jy (outer:List a6) (k:Nat):fk outer (k+1)=if im k ∈ outer then fk outer k else fk outer k++[im k]:=by
  rw[fk,List.range_succ,List.map_append,List.filter_append]
  by_cases h:im k ∈ outer<;>simp[h,fk]
theorem HH {l m:List a6} (h:l.Nodup) (hs:∀ x ∈ l,x ∈ m):l.length<=m.length:=by
  induction l generalizing m with
  | nil=>simp
  | cons x l ih=>
    have hx:x ∈ m:=hs x (by simp);rw[List.nodup_cons] at h;have:=ih (m:=m.erase x) h.2 fun y hy=>(List.mem_erase_of_ne (by rintro rfl;exact h.1 hy)).2 (hs y (by simp[hy]))
    rw[List.length_erase_of_mem hx] at this;have:=List.length_pos_of_mem hx;simp only[List.length_cons];omega
theorem rN (outer:List a6) {k:Nat} (hk:k<=64):k<=(fk outer k).length+outer.length:=by
  have h1:(((List.range k).map im).filter fun s=>decide (s ∈ outer)).length<=outer.length:=by
    refine HH ?_ fun x hx=>by simpa using (List.mem_filter.1 hx).2
    refine List.Nodup.sublist List.filter_sublist ?_;rw[List.Nodup,List.pairwise_map];refine List.Pairwise.imp_of_mem (R:=(· ≠ ·)) (fun {a b} ha hb hne h=>hne (Fx ?_ ?_ h)) List.nodup_range
    · have:=List.mem_range.1 ha;omega
    · have:=List.mem_range.1 hb;omega
  have h2:∀ l:List a6,(l.filter fun s=>decide (s ∈ outer)).length+(l.filter fun s=>decide (s ∉ outer)).length=l.length:=by
    intro l
    induction l with
    | nil=>rfl
    | cons x l ih=>by_cases h:x ∈ outer<;>simp[h]<;>simp at ih<;>omega
  have:=h2 ((List.range k).map im);simp only[List.length_map,List.length_range] at this;rw[fk];omega
theorem EU (outer:List a6) {j k:Nat} (h:j<=k):fk outer j <+: fk outer k:=by
  induction k with
  | zero=>rw[show j=0 by omega];exact List.prefix_rfl
  | succ k ih=>
    rcases Nat.lt_or_ge j (k+1) with h1 | h1
    · refine (ih (by omega)).trans ?_
      rw[jy]
      split
      · exact List.prefix_rfl
      · exact List.prefix_append _ _
    · rw[show j=k+1 by omega];exact List.prefix_rfl
def gq (outer:List a6) (n:Nat):List a6:=(fk outer (n+outer.length)).take n
theorem ux {outer:List a6} {k n:Nat} (hk:k<=n+outer.length) (hl:(fk outer k).length=n):fk outer k=gq outer n:=by
  have:=(List.prefix_iff_eq_take).1 (EU outer hk);rw[hl] at this;exact this
abbrev mf (l:List a6) (_:a6):Prop:=l.length<=1048576
abbrev wZ (l:List a6) (s:a6):Bool:=decide (s ∈ l)
def oe (s:List a6) (v_:a6) (Z:Bool->Prop):Prop:=
  (jH s v_)/\∀ r3:Int,r3=eJ s v_->∀ c4:Bool,c4=decide (0<=r3)->Z c4
theorem FW (l:List a6) (s:a6) (h:mf l s):oe l s (fun y=>y=wZ l s):=by
  unfold oe;simp only[forall_eq];refine⟨h,?_⟩;rw[eJ,wZ]
  split<;>simp_all
def gW (b:aG) (l:List Int) (k:Nat):List Int:=((l.take k).map fun x=>(at' b.nodes x).links).flatten
theorem qk {b:aG} {l:List Int} {k:Nat} (h:k<l.length):gW b l (k+1)=gW b l k++(at' b.nodes l[k]).links:=by
  rw[gW,List.take_succ_eq_append_getElem h,List.map_append,List.flatten_append];simp[gW]
def gT (b:aG) (m:Match):List Int:=gW b (cy b m) (cy b m).length
def bm (b:aG) (m:Match):List Int:=gm (lE (gT b m)).1
theorem nU {sig:cP} {b:aG} (hV:cM sig b) {l:List Int} (hl:∀ x ∈ l,0<=x/\x<b.nodes.length):∀ k,k<=l.length->(gW b l k).length<=3 * k
  | 0,_=>by simp[gW]
  | k+1,h=>by
    have h1:=nU hV hl k (by omega);have h2:=hV.kq (hl _ (List.getElem_mem (show k<l.length by omega)));rw[qk (by omega),List.length_append];omega
theorem uS {b:aG} {m:Match}:∀ x ∈ cy b m,0<=x/\x<b.nodes.length:=fun _ hx=>(tO.1 hx).1
theorem uk {sig:cP} {b:aG} (hV:cM sig b) (m:Match):(gT b m).length<=24:=by
  have h1:=nU hV (uS (m:=m)) _ (Nat.le_refl _);have h2:(cy b m).length<=b.nodes.length:=qd 3 b m b.nodes.length;have h3:=hV.len;rw[gT];omega
theorem tV {sig:cP} {b:aG} (hV:cM sig b) (m:Match):(bm b m).length<=24:=by
  have h1:=sn (lE (gT b m)).1;have h2:=uk hV m;simp only[lE,List.length_mergeSort] at h1;rw[bm];simp only[lE];omega
theorem Bv:∀ k:Fin 64,(fun i:Nat=>(gJ (97+(i:Int))).length<=4) k.val:=by
  simp only
  decide
theorem q8 {k:Nat} (h:k<64):(gJ (97+(k:Int))).length<=4:=Bv ⟨k,h⟩
theorem AM (k:Nat):[122]++gJ (97+(k:Int))=im k:=by rw[im,List.singleton_append]
abbrev eD (ar I:aG) (m:Match):Prop:=(∃ sig,cM sig I)/\ar.outer.length<=16/\m.nodes.length<=1048576
abbrev eU (ar I:aG) (m:Match):List Int × List a6 × Bool:=(bm I m,gq ar.outer (bm I m).length,decide ((bm I m).length+ar.outer.length<=16))
def gl (ar:aG) (I:aG) (m:Match) (Z:((List Int) × (List a6) × Bool)->Prop):Prop:=
  (iG I m)/\∀ r12:List Int,r12=cy I m->∀ len20:Int,len20=(r12.length:Int)->aI (σ:=Int × (List Int)) (fun (v37,l38) K44=>∀ c45:Bool,c45=decide (v37<len20)->((c45=true->(0<=v37/\v37<r12.length)/\∀ x52:Int,x52=at' r12 v37->(0<=x52/\x52<I.nodes.length)/\∀ x56:ay,x56=at' I.nodes x52->(l38.length+x56.links.length<=1073741824)/\∀ l59:List Int,l59=l38++x56.links->(bh (v37+1))/\∀ v71:Int,v71=v37+1->K44 (v71,l59))/\(c45=false->(l38.length<=1073741824)/\∀ r74:(List Int) × Unit,r74=lE l38->(r74.1.length<=1073741824)/\∀ r85:List Int,r85=gm r74.1->aI (σ:=Int × (List a6)) (fun (c105,l106) K111=>∀ len112:Int,len112=(l106.length:Int)->∀ len114:Int,len114=(r85.length:Int)->∀ c116:Bool,c116=decide (len112<len114)->((c116=true->∀ v118:a6,v118=gJ c105->([122].length+v118.length<4611686018427387904)/\∀ v120:a6,v120=[122]++v118->(mf ar.outer v120)/\∀ r123:Bool,r123=wZ ar.outer v120->((r123=true->(-2147483648<=c105+1/\c105+1<=2147483647)/\∀ v139:Int,v139=c105+1->K111 (v139,l106))/\(r123=false->(l106.length+1<=1073741824)/\∀ l125:List a6,l125=l106++[v120]->(-2147483648<=c105+1/\c105+1<=2147483647)/\∀ v136:Int,v136=c105+1->K111 (v136,l125))))/\(c116=false->∀ len144:Int,len144=(r85.length:Int)->∀ len146:Int,len146=(ar.outer.length:Int)->(bh (len144+len146))/\∀ v149:Int,v149=len144+len146->∀ c151:Bool,c151=decide (v149<=16)->Z (r85,l106,c151)))) (97,([]:List a6))))) (0,([]:List Int))
theorem ur (ar I:aG) (m:Match) (h:eD ar I m):gl ar I m (fun y=>y=eU ar I m):=by
  unfold gl;obtain⟨⟨sig,hV⟩,ho,hm⟩:=h;have h8:=hV.len;have hpl:(cy I m).length<=I.nodes.length:=qd 3 I m I.nodes.length;simp only[forall_eq,decide_eq_true_eq,decide_eq_false_iff_not];refine⟨⟨hV.qR,hm⟩,?_⟩;refine aI.mS (cy I m).length (fun k t=>t=gW I (cy I m) k) [] rfl ?_;rintro k _ K hk rfl IH;dsimp only;have hl:=nU hV (uS (m:=m)) k hk;refine⟨fun h1=>?_,fun h1=>?_⟩
  · have hk2:k<(cy I m).length:=by omega
    rw[cK hk2];have h2:=uS _ (List.getElem_mem hk2);have h3:=hV.kq h2;exact⟨⟨by omega,by omega⟩,h2,by omega,by simp only[bh];omega,IH hk2 _ (qk hk2).symm⟩
  · have e:gW I (cy I m) k=gT I m:=by rw[gT,show k=(cy I m).length by omega]
    rw[e];have hl2:=uk hV m;have hn:=tV hV m;refine⟨by omega,by simp only[lE,List.length_mergeSort];omega,?_⟩;rw[show gm (lE (gT I m)).1=bm I m from rfl];refine aI.up ((bm I m).length+ar.outer.length) (fun s=>s.1 - 97) (fun k t=>(97+(k:Int),t)) (fun _ _=>by simp only;omega) (fun k t=>t=fk ar.outer k/\t.length<=(bm I m).length) [] (by simp) ⟨by simp[fk],by simp⟩ ?_;rintro k _ K hk ⟨rfl,hle⟩ IH;dsimp only;have hf:=rN ar.outer (k:=k) (by omega);have hzl:=q8 (k:=k) (by omega);refine⟨fun h1=>?_,fun h1=>?_⟩
    · have hk2:k<(bm I m).length+ar.outer.length:=by omega
      rw[AM,show (97:Int)+(k:Int)+1=97+((k+1:Nat):Int) by omega];refine⟨by simp only[List.length_cons,List.length_nil];omega,by simp only[mf];omega,fun h4=>⟨by omega,IH hk2 _ ⟨?_,hle⟩⟩,fun h4=>⟨by omega,by omega,IH hk2 _ ⟨?_,?_⟩⟩⟩
      · rw[jy,if_pos h4]
      · rw[jy,if_neg h4]
      · simp only[List.length_append,List.length_cons,List.length_nil];omega
    · refine⟨by simp only[bh];omega,?_⟩
      have hnn:(fk ar.outer k).length=(bm I m).length:=Nat.le_antisymm hle (Int.ofNat_le.1 (Int.not_lt.1 h1));rw[eU,ux hk hnn];refine Prod.ext rfl (Prod.ext rfl ?_);simp only[decide_eq_decide];omega
theorem qc {b:aG} {m:Match} {l:Int}:l ∈ gT b m↔∃ x:Int,(0<=x/\x<b.nodes.length)/\j8 3 b m x=true/\l ∈ (at' b.nodes x).links:=by
  simp only[gT,gW,List.take_length,List.mem_flatten,List.mem_map]
  constructor
  · rintro⟨_,⟨x,hx,rfl⟩,hl⟩
    have:=tO.1 hx;exact⟨x,this.1,this.2,hl⟩
  · rintro⟨x,h1,h2,h3⟩
    exact⟨_,⟨x,tO.2 ⟨h1,h2⟩,rfl⟩,h3⟩
noncomputable def kv (sig:cP) (ar I:aG) (m:Match):List Int × List a6 × Bool:=if bW sig ar I && eP ar I m then (if (bm I m).length+ar.outer.length<=16 then (bm I m,gq ar.outer (bm I m).length,true) else ([],[],false)) else ([],[],false)
theorem pk {sig:cP} {ar I:aG} {m:Match} (hs:eO sig ar I m) (h:(bW sig ar I && eP ar I m)=true):eD ar I m:=by
  simp only[Bool.and_eq_true] at h;have hp:=fu h.1;exact⟨⟨sig,hp.a⟩,hp.r.outer,hs.2.2.1⟩
abbrev iC (I:aG) (m:Match):Prop:=pj I/\m.nodes.length<=1048576
abbrev cV (I:aG) (m:Match):List Bool:=(List.range I.nodes.length).map fun i:Nat=>j8 3 I m i
def fZ (I:aG) (m:Match) (Z:(List Bool)->Prop):Prop:=
  aI (σ:=Int × (List Bool)) (fun (i15,l16) K20=>∀ len21:Int,len21=(I.nodes.length:Int)->∀ c23:Bool,c23=decide (i15<len21)->((c23=true->(m.nodes.length<=1048576)/\∀ r26:Bool,r26=lg m.nodes i15->((r26=true->(l16.length+1<=1073741824)/\∀ l28:List Bool,l28=l16++[false]->(bh (i15+1))/\∀ v38:Int,v38=i15+1->K20 (v38,l28))/\(r26=false->(gh I m i15)/\∀ r41:Bool,r41=fE I m i15->(l16.length+1<=1073741824)/\∀ l43:List Bool,l43=l16++[r41]->(bh (i15+1))/\∀ v53:Int,v53=i15+1->K20 (v53,l43))))/\(c23=false->Z l16))) (0,([]:List Bool))
theorem uB (I:aG) (m:Match) (h:iC I m):fZ I m (fun y=>y=cV I m):=by
  unfold fZ;obtain⟨h1,h2⟩:=h;have h8:=h1.1;simp only[forall_eq,decide_eq_true_eq,decide_eq_false_iff_not];refine aI.mS I.nodes.length (fun k t=>t=(List.range k).map fun i:Nat=>j8 3 I m i) [] rfl ?_;rintro k _ K hk rfl IH;dsimp only;have hl:((List.range k).map fun i:Nat=>j8 3 I m i).length=k:=by simp
  refine⟨fun h3=>⟨h2,fun h4=>⟨by omega,by simp only[bh];omega,IH (by omega) _ ?_⟩,fun h4=>⟨⟨h1,by omega,h2⟩,by omega,by simp only[bh];omega,IH (by omega) _ ?_⟩⟩,fun h3=>?_⟩
  · rw[List.range_succ,List.map_append];simp[j8,h4]
  · rw[List.range_succ,List.map_append];simp[j8,h4]
  · rw[cV,show I.nodes.length=k by omega]
def pe (b:aG) (l:Int) (kind:List Bool) (is:Bool) (k:Nat):Int:=((((bF b l).take k).filter fun p=>at' kind p.1 == is).length:Int)
theorem va {b:aG} {l:Int} {kind:List Bool} {is:Bool} {k:Nat} (h:k<(bF b l).length):pe b l kind is (k+1)=pe b l kind is k+if (at' kind (bF b l)[k].1 == is)=true then 1 else 0:=by
  rw[pe,List.take_succ_eq_append_getElem h,List.filter_append,List.length_append,pe]
  by_cases hc:(at' kind (bF b l)[k].1 == is)=true<;>simp[hc]
theorem G3 (b:aG) (l:Int) (kind:List Bool) (is:Bool) (k:Nat):0<=pe b l kind is k/\pe b l kind is k<=k:=by
  have h1:=List.length_filter_le (fun p:Int × Int=>at' kind p.1 == is) ((bF b l).take k);have h2:((bF b l).take k).length<=k:=by simp;omega
  rw[pe];omega
theorem Ea {b:aG} (h:lT b) (l:Int):(bF b l).length<=1048576:=by
  have:=fW h.2.1 l b.nodes.length (Nat.le_refl _);have h1:=h.1;rw[bF];omega
abbrev pW (b:aG) (_:Int) (kind:List Bool) (_:Bool):Prop:=lT b/\kind.length=b.nodes.length
abbrev kI (b:aG) (l:Int) (kind:List Bool) (is:Bool):Int:=pe b l kind is (bF b l).length
def oG (b:aG) (link:Int) (kind:List Bool) (is:Bool) (Z:Int->Prop):Prop:=
  (fP b link)/\∀ r5:List (Int × Int),r5=hC b link->aI (σ:=Int × Int) (fun (count9,i10) K13=>∀ len14:Int,len14=(r5.length:Int)->∀ c16:Bool,c16=decide (i10<len14)->((c16=true->(0<=i10/\i10<r5.length)/\∀ x19:Int × Int,x19=at' r5 i10->(0<=x19.1/\x19.1<kind.length)/\∀ x23:Bool,x23=at' kind x19.1->∀ c25:Bool,c25=(x23 == is)->((c25=true->(bh (count9+1))/\∀ v28:Int,v28=count9+1->(bh (i10+1))/\∀ v32:Int,v32=i10+1->K13 (v28,v32))/\(c25=false->(bh (i10+1))/\∀ v35:Int,v35=i10+1->K13 (count9,v35))))/\(c16=false->Z count9))) (0,0)
theorem FC (b:aG) (l:Int) (kind:List Bool) (is:Bool) (h:pW b l kind is):oG b l kind is (fun y=>y=kI b l kind is):=by
  unfold oG;obtain⟨h1,h2⟩:=h;have hp:=Ea h1 l;simp only[forall_eq,decide_eq_true_eq,decide_eq_false_iff_not,hC];refine⟨h1,aI.upR (bF b l).length (fun k c=>c=pe b l kind is k) 0 rfl ?_⟩;rintro k _ K hk rfl IH;dsimp only;have hc:=G3 b l kind is k;refine⟨fun h3=>?_,fun h3=>?_⟩
  · have hk2:k<(bF b l).length:=by omega
    rw[cK hk2];obtain⟨j,j1,j2,_⟩:=eY.1 (List.getElem_mem hk2);refine⟨⟨by omega,by omega⟩,⟨by omega,by omega⟩,fun h4=>⟨by simp only[bh];omega,by simp only[bh];omega,IH hk2 _ ?_⟩,fun h4=>⟨by simp only[bh];omega,IH hk2 _ ?_⟩⟩
    · rw[va hk2,if_pos h4]
    · rw[va hk2,if_neg (by rw[h4];simp)];omega
  · rw[kI,show (bF b l).length=k by omega]
theorem IC:∀ n:Fin 26,(fun i:Nat=>(([97,98,99,100,101,102,103,104,105,106,107,108,109,110,111,112,113,114,115,116,117,118,119,120,121,122]:a6).take (i+1)).drop i=gJ (97+(i:Int))) n.val:=by
  simp only
  decide
abbrev mw (k:Int):Prop:=0<=k/\k<26
abbrev nn (k:Int):a6:=gJ (97+k)
def kh (link:Int) (Z:a6->Prop):Prop:=
  (bh (link+1))/\∀ v3:Int,v3=link+1->(0<=link/\link<=v3/\v3<=[97,98,99,100,101,102,103,104,105,106,107,108,109,110,111,112,113,114,115,116,117,118,119,120,121,122].length)/\∀ s6:a6,s6=([97,98,99,100,101,102,103,104,105,106,107,108,109,110,111,112,113,114,115,116,117,118,119,120,121,122].take v3.toNat).drop link.toNat->Z s6
theorem zD (k:Int) (h:mw k):kh k (fun y=>y=nn k):=by
  unfold kh;obtain⟨h1,h2⟩:=h;obtain⟨n,rfl⟩:∃ n:Nat,k=n:=⟨k.toNat,by omega⟩
  simp only[forall_eq,List.length_cons,List.length_nil];refine⟨by simp only[bh];omega,⟨by omega,by omega,by omega⟩,?_⟩;rw[show ((n:Int)+1).toNat=n+1 by omega,Int.toNat_natCast];exact IC ⟨n,by omega⟩
theorem wT {l:List a6} {s:a6}:eJ l s<0↔s ∉ l:=by
  rw[eJ]
  split
  · rename_i h
    exact iff_of_false (by omega) fun h2=>h2 h
  · rename_i h
    exact iff_of_true (by omega) h
def ph (I:aG) (m:Match) (k:Nat):List Int:=((List.range k).map fun i:Nat=>(i:Int)).filter fun l=>decide (0<kI I l (cV I m) true)
theorem tK (I:aG) (m:Match) (k:Nat):ph I m (k+1)=if 0<kI I k (cV I m) true then ph I m k++[(k:Int)] else ph I m k:=by
  rw[ph,List.range_succ,List.map_append,List.filter_append]
  by_cases h:0<kI I k (cV I m) true<;>simp[h,ph]
theorem ER (I:aG) (m:Match) (k:Nat):(ph I m k).length<=k:=by
  have:=List.length_filter_le (fun l=>decide (0<kI I l (cV I m) true)) ((List.range k).map fun i:Nat=>(i:Int));simpa[ph] using this
theorem Gt {I:aG} {m:Match} {l:Int}:0<kI I l (cV I m) true↔l ∈ gT I m:=by
  rw[kI,pe,List.take_length,qc];have e:∀ x:Int,0<=x->x<I.nodes.length->at' (cV I m) x=j8 3 I m x:=by
    intro x h0 h1;obtain⟨n,rfl⟩:∃ n:Nat,x=n:=⟨x.toNat,by omega⟩
    rw[cK (by simp;omega)];simp
  constructor
  · intro h
    have h1:0<((bF I l).filter fun p=>at' (cV I m) p.1 == true).length:=by omega
    obtain⟨p,hp⟩:=List.exists_mem_of_length_pos h1;rw[List.mem_filter] at hp;obtain⟨j,j1,j2,j3,j4,j5⟩:=eY.1 hp.1;have h2:=hp.2;rw[j2,e _ (by omega) (by omega),beq_iff_eq] at h2;refine⟨j,⟨by omega,by omega⟩,h2,?_⟩;obtain⟨q,hq⟩:∃ q:Nat,p.2=q:=⟨p.2.toNat,by omega⟩
    rw[hq,cK (by omega)] at j5;rw[<- j5];exact List.getElem_mem _
  · rintro⟨x,⟨h0,h1⟩,h2,h3⟩
    obtain⟨n,rfl⟩:∃ n:Nat,x=n:=⟨x.toNat,by omega⟩
    obtain⟨q,hq,he⟩:=List.getElem_of_mem h3;have hm:((n:Int),(q:Int)) ∈ (bF I l).filter fun p=>at' (cV I m) p.1 == true:=by
      rw[List.mem_filter];refine⟨eY.2 ⟨n,by omega,rfl,by simp,by simpa using hq,?_⟩,?_⟩
      · simp only
        rw[cK hq,he]
      · simp only[e _ h0 h1,h2,beq_self_eq_true]
    have:=List.length_pos_of_mem hm;omega
theorem E8 {sig:cP} {I:aG} (hV:cM sig I) (m:Match) {k:Nat} (hk:(k:Int)=I.edges+I.outer.length):ph I m k=bm I m:=by
  obtain⟨s1,s2⟩:=qv (gT I m);refine BV ?_ s1 fun x=>?_
  · refine List.Pairwise.sublist List.filter_sublist ?_
    rw[List.pairwise_map];exact List.pairwise_lt_range.imp fun h=>by omega
  · rw[show x ∈ bm I m↔x ∈ gT I m from s2 x]
    simp only[ph,List.mem_filter,decide_eq_true_eq,Gt,List.mem_map,List.mem_range];refine⟨fun h=>h.2,fun h=>⟨?_,h⟩⟩;obtain⟨y,hy,_,hl⟩:=qc.1 h;have:=hV.iT hy x hl;exact⟨x.toNat,by omega,by omega⟩
abbrev lL (ar I:aG) (m:Match):Prop:=eD ar I m
abbrev j6 (ar I:aG) (m:Match):List Int × List a6 × Bool:=if (bm I m).length+ar.outer.length<=16 then (bm I m,gq ar.outer (bm I m).length,true) else ([],[],false)
def ke (ar:aG) (I:aG) (m:Match) (Z:((List Int) × (List a6) × Bool)->Prop):Prop:=
  (iC I m)/\∀ r9:List Bool,r9=cV I m->aI (σ:=Int × (List Int)) (fun (link32,l33) K39=>∀ len40:Int,len40=(I.outer.length:Int)->(bh (I.edges+len40))/\∀ v43:Int,v43=I.edges+len40->∀ c45:Bool,c45=decide (link32<v43)->((c45=true->(pW I link32 r9 true)/\∀ r48:Int,r48=kI I link32 r9 true->∀ c49:Bool,c49=decide (0<r48)->((c49=true->(l33.length+1<=1073741824)/\∀ l52:List Int,l52=l33++[link32]->(bh (link32+1))/\∀ v64:Int,v64=link32+1->K39 (v64,l52))/\(c49=false->(bh (link32+1))/\∀ v67:Int,v67=link32+1->K39 (v67,l33))))/\(c45=false->∀ len73:Int,len73=(l33.length:Int)->∀ len75:Int,len75=(ar.outer.length:Int)->(bh (len73+len75))/\∀ v78:Int,v78=len73+len75->∀ c80:Bool,c80=decide (16<v78)->((c80=true->Z (([]:List Int),([]:List a6),false))/\(c80=false->aI (σ:=Int × (List a6)) (fun (i100,l101) K106=>∀ len107:Int,len107=(l101.length:Int)->∀ len109:Int,len109=(l33.length:Int)->∀ c111:Bool,c111=decide (len107<len109)->((c111=true->(mw i100)/\∀ r114:a6,r114=nn i100->([122].length+r114.length<4611686018427387904)/\∀ v116:a6,v116=[122]++r114->(qP ar.outer v116)/\∀ r119:Int,r119=Ip ar.outer v116->∀ c120:Bool,c120=decide (r119<0)->((c120=true->(l101.length+1<=1073741824)/\∀ l123:List a6,l123=l101++[v116]->(bh (i100+1))/\∀ v134:Int,v134=i100+1->K106 (v134,l123))/\(c120=false->(bh (i100+1))/\∀ v137:Int,v137=i100+1->K106 (v137,l101))))/\(c111=false->Z (l33,l101,true)))) (0,([]:List a6))))))) (0,([]:List Int))
theorem y6 (ar I:aG) (m:Match) (h:lL ar I m):ke ar I m (fun y=>y=j6 ar I m):=by
  unfold ke;obtain⟨⟨sig,hV⟩,ho,hm⟩:=h;have h8:=hV.len;have he:=hV.edges;have hou:=hV.outer;have hn:=tV hV m;simp only[forall_eq,decide_eq_true_eq,decide_eq_false_iff_not];refine⟨⟨hV.qR,hm⟩,?_⟩;refine aI.mS (I.edges+I.outer.length).toNat (fun k t=>t=ph I m k) [] rfl ?_;rintro k _ K hk rfl IH;dsimp only;have hl:=ER I m k;refine⟨by simp only[bh];omega,fun h1=>⟨⟨hV.qa,by simp⟩,fun h2=>⟨by omega,by simp only[bh];omega,IH (by omega) _ ?_⟩,fun h2=>⟨by simp only[bh];omega,IH (by omega) _ ?_⟩⟩,fun h1=>?_⟩
  · rw[tK,if_pos h2]
  · rw[tK,if_neg h2]
  · rw[E8 hV m (k:=k) (by omega)]
    refine⟨by simp only[bh];omega,fun h2=>?_,fun h2=>?_⟩
    · rw[j6,if_neg (by omega)]
    · refine aI.mS ((bm I m).length+ar.outer.length) (fun k t=>t=fk ar.outer k/\t.length<=(bm I m).length) [] ⟨by simp[fk],by simp⟩ ?_
      rintro k _ K hk ⟨rfl,hle⟩ IH;dsimp only;have hf:=rN ar.outer (k:=k) (by omega);have hzl:(nn (k:Int)).length<=4:=q8 (k:=k) (by omega);refine⟨fun h3=>?_,fun h3=>?_⟩
      · have hk2:k<(bm I m).length+ar.outer.length:=by omega
        rw[show [122]++nn (k:Int)=im k from AM k];refine⟨⟨by omega,by omega⟩,by simp only[List.length_cons,List.length_nil];omega,by simp only[qP];omega,fun h4=>⟨by omega,by simp only[bh];omega,IH hk2 _ ⟨?_,?_⟩⟩,fun h4=>⟨by simp only[bh];omega,IH hk2 _ ⟨?_,hle⟩⟩⟩
        · rw[jy,if_neg (wT.1 h4)]
        · simp only[List.length_append,List.length_cons,List.length_nil];omega
        · rw[jy,if_pos (Decidable.not_not.1 fun h5=>h4 (wT.2 h5))]
      · have hnn:(fk ar.outer k).length=(bm I m).length:=Nat.le_antisymm hle (Int.ofNat_le.1 (Int.not_lt.1 h3))
        rw[j6,if_pos (by omega),ux hk hnn]
noncomputable abbrev dP (sig:cP) (ar I:aG) (m:Match):=kv sig ar I m
abbrev gQ (sig:cP) (ar I:aG) (m:Match):Prop:=eO sig ar I m
def fH (sig:List Control) (ar:aG) (I:aG) (m:Match) (Z:((List Int) × (List a6) × Bool)->Prop):Prop:=
  (nS sig ar I m)/\∀ r7:Bool,r7=oT sig ar I m->((r7=true->(lL ar I m)/\∀ r15:(List Int) × (List a6) × Bool,r15=j6 ar I m->Z (r15.1,r15.2.1,r15.2.2))/\(r7=false->Z (([]:List Int),([]:List a6),false)))
theorem sF (sig:cP) (ar I:aG) (m:Match) (h:gQ sig ar I m):fH sig ar I m (fun y=>y=dP sig ar I m):=by
  unfold fH;simp only[forall_eq];refine⟨h,fun h1=>⟨pk h h1,?_⟩,fun h1=>?_⟩
  · rw[dP,kv,if_pos h1]
  · rw[dP,kv,if_neg (by rw[show (bW sig ar I && eP ar I m)=false from h1];simp)]
end Go.Ab.Vg
namespace Go.Ab.Vg
abbrev jE (l:List Int) (_:Int):Prop:=l.length<=1048576
def c7 (l:List Int) (s:Int):Int:=if s ∈ l then (l.idxOf s:Int) else -1
theorem EE {l:List Int} {s:Int} (h:∀ j<l.length,at' l (j:Int) ≠ s):c7 l s = -1:=by
  rw[c7,if_neg];intro hm;obtain⟨j,hj,he⟩:=List.getElem_of_mem hm;exact h j hj (by rw[cK hj];exact he)
theorem Cb {l:List Int} {s:Int} {k:Nat} (hk:k<l.length) (h:∀ j<k,at' l (j:Int) ≠ s) (he:at' l (k:Int)=s):c7 l s=k:=by
  rw[cK hk] at he;have hm:s ∈ l:=he ▸ List.getElem_mem hk;rw[c7,if_pos hm];have h1:l.idxOf s<l.length:=List.idxOf_lt_length_iff.2 hm;have h2:l[l.idxOf s]=s:=List.getElem_idxOf h1;have h3:¬ l.idxOf s<k:=fun hlt=>h _ hlt (by rw[cK h1];exact h2)
  have h4:¬ k<l.idxOf s:=fun hlt=>by
    have:=List.not_of_lt_findIdx (p:=(· == s)) (xs:=l) hlt;simp[he] at this
  omega
theorem Eb (l:List Int) (s:Int) : -1<=c7 l s/\c7 l s<l.length/\(0<=c7 l s↔s ∈ l):=by
  rw[c7]
  split
  · rename_i h
    have h1:l.idxOf s<l.length:=List.idxOf_lt_length_iff.2 h;exact⟨by omega,by omega,fun _=>h,fun _=>by omega⟩
  · rename_i h
    exact⟨by omega,by omega,fun h2=>by omega,fun h2=>absurd h2 h⟩
theorem E7 (l:List a6) (s:a6) : -1<=eJ l s/\eJ l s<l.length:=by
  rw[eJ]
  split
  · rename_i h
    have h1:l.idxOf s<l.length:=List.idxOf_lt_length_iff.2 h;omega
  · omega
def oB (s:List Int) (v_:Int) (Z:Int->Prop):Prop:=
  ∀ cJ:Int,cJ=(s.length:Int)->aI (σ:=Int) (fun v6 K9=>∀ c10:Bool,c10=decide (v6<cJ)->((c10=true->(0<=v6/\v6<s.length)/\∀ x13:Int,x13=at' s v6->∀ c15:Bool,c15=decide (v_=x13)->((c15=true->Z v6)/\(c15=false->(bh (v6+1))/\∀ v18:Int,v18=v6+1->K9 (v18))))/\(c10=false->Z (-1)))) (0)
theorem EO (l:List Int) (s:Int) (h:jE l s):oB l s (fun y=>y=c7 l s):=by
  unfold oB;rintro _ rfl;refine aI.Bi l.length (fun k=>∀ j<k,at' l (j:Int) ≠ s) (by simp) ?_;rintro k K hk hI IH;simp only[forall_eq,decide_eq_true_eq,decide_eq_false_iff_not,bh];refine⟨fun h1=>⟨by omega,fun h2=>(Cb (by omega) hI h2.symm).symm,fun h2=>⟨by omega,IH (by omega) fun j hj=>?_⟩⟩,fun h1=>?_⟩
  · rcases Nat.lt_or_ge j k with h3 | h3
    · exact hI j h3
    · rw[show j=k by omega];exact fun h=>h2 h.symm
  · rw[EE fun j hj=>hI j (by omega)]
def cL (p:Int->Bool) (n:Nat):List Int:=((List.range n).map fun i:Nat=>(i:Int)).filter p
def dq (p:Int->Bool) (n:Nat):Int:=((cL p n).length:Int)
section
variable (p:Int->Bool)
theorem ow {n:Nat} (h:p n=true):cL p (n+1)=cL p n++[(n:Int)]:=by simp[cL,List.range_succ,h]
theorem qS {n:Nat} (h:p n=false):cL p (n+1)=cL p n:=by simp[cL,List.range_succ,h]
theorem A4 {n:Nat} (h:p n=true):dq p (n+1)=dq p n+1:=by rw[dq,ow p h,dq];simp
theorem Du {n:Nat} (h:p n=false):dq p (n+1)=dq p n:=by rw[dq,qS p h,dq]
theorem dD {n:Nat} {x:Int}:x ∈ cL p n↔(0<=x/\x<n)/\p x=true:=by
  simp only[cL,List.mem_filter,List.mem_map,List.mem_range];exact⟨fun ⟨⟨i,h1,h2⟩,h3⟩=>⟨by omega,h3⟩,fun ⟨h1,h2⟩=>⟨⟨x.toNat,by omega,by omega⟩,h2⟩⟩
theorem k8 (n:Nat):(cL p n).length<=n:=by
  have:=List.length_filter_le p ((List.range n).map fun i:Nat=>(i:Int));simpa[cL] using this
theorem qD (n:Nat):0<=dq p n/\dq p n<=n:=by
  have:=k8 p n;rw[dq];omega
theorem mO {n:Nat} {x:Int} (h:x ∈ cL p n):c7 (cL p n) x=dq p x.toNat:=by
  induction n with
  | zero=>simp[cL] at h
  | succ n ih=>
    cases hp:p n
    · rw[qS p hp] at h ⊢;exact ih h
    · rw[ow p hp] at h ⊢
      by_cases hm:x ∈ cL p n
      · rw[<- ih hm,c7,c7,if_pos h,if_pos hm,List.idxOf_append,if_pos hm]
      · have hx:x=n:=by simpa[hm] using h
        subst hx;rw[c7,if_pos h,List.idxOf_append,if_neg hm];simp[dq]
theorem nY {n:Nat} {x:Int} (h:x ∉ cL p n):c7 (cL p n) x = -1:=if_neg h
theorem sy {p q:Int->Bool} {n:Nat} (h:∀ x:Int,0<=x->x<n->p x=q x):cL p n=cL q n:=by
  refine List.filter_congr fun x hx=>?_
  simp only[List.mem_map,List.mem_range] at hx;obtain⟨i,h1,rfl⟩:=hx;exact h _ (by omega) (by omega)
end
def gF (b:aG) (edges:List Int) (outer:List a6) (place:Int->Int) (name:Int->a6) (k:Int):ay:=
  ⟨(at' b.nodes k).control,place (at' b.nodes k).parent,(at' b.nodes k).links.map fun l=>if 0<=c7 edges l then c7 edges l else edges.length+eJ outer (name l)⟩
def lv (b:aG) (nodes edges:List Int) (outer:List a6) (place:Int->Int) (_:Int->Prop) (name:Int->a6) (_:Int->Prop):aG:=
  ⟨b.roots,nodes.map (gF b edges (bQ outer) place name),[],edges.length,bQ outer,[]⟩
structure qV (b:aG) (nodes edges:List Int) (outer:List a6) (place:Int->Int) (Dp:Int->Prop) (name:Int->a6) (Dn:Int->Prop):Prop where
  n:nodes.length<=1048576
  e:edges.length<=1048576
  o:outer.length<=1048576
  i:∀ k ∈ nodes,0<=k/\k<b.nodes.length
  p:∀ k ∈ nodes,Dp (at' b.nodes k).parent
  l:∀ k ∈ nodes,(at' b.nodes k).links.length<=1048576
  d:∀ k ∈ nodes,∀ l ∈ (at' b.nodes k).links,l ∉ edges->Dn l
def qm (b:aG) (nodes:List Int) (edges:List Int) (outer:List a6) (f4:Int->Int) (D4:Int->Prop) (f5:Int->a6) (D5:Int->Prop) (Z:aG->Prop):Prop:=
  ∀ dd:Int,dd=(edges.length:Int)->(iE outer)/\∀ r9:List a6,r9=bQ outer->∀ len19:Int,len19=(nodes.length:Int)->aI (σ:=Int × (List ay)) (fun (v40,l41) K48=>∀ c49:Bool,c49=decide (v40<len19)->((c49=true->(0<=v40/\v40<nodes.length)/\∀ x52:Int,x52=at' nodes v40->(0<=x52/\x52<b.nodes.length)/\∀ x60:ay,x60=at' b.nodes x52->(0<=x52/\x52<b.nodes.length)/\∀ x63:ay,x63=at' b.nodes x52->(D4 x60.parent)/\∀ r67:Int,r67=f4 x60.parent->(0<=x52/\x52<b.nodes.length)/\∀ x80:ay,x80=at' b.nodes x52->∀ len82:Int,len82=(x80.links.length:Int)->aI (σ:=Int × (List Int)) (fun (v106,l107) K115=>∀ c116:Bool,c116=decide (v106<len82)->((c116=true->(0<=v106/\v106<x80.links.length)/\∀ x119:Int,x119=at' x80.links v106->(jE edges x119)/\∀ r122:Int,r122=c7 edges x119->∀ c123:Bool,c123=decide (0<=r122)->((c123=true->(l107.length+1<=1073741824)/\∀ l126:List Int,l126=l107++[r122]->(bh (v106+1))/\∀ v141:Int,v141=v106+1->K115 (v141,l126))/\(c123=false->(D5 x119)/\∀ r144:a6,r144=f5 x119->(jH r9 r144)/\∀ r146:Int,r146=eJ r9 r144->(bh (dd+r146))/\∀ v148:Int,v148=dd+r146->(l107.length+1<=1073741824)/\∀ l151:List Int,l151=l107++[v148]->(bh (v106+1))/\∀ v166:Int,v166=v106+1->K115 (v166,l151))))/\(c116=false->(l41.length+1<=1073741824)/\∀ l169:List ay,l169=l41++[(ay.mk x60.control r67 l107)]->(bh (v40+1))/\∀ v183:Int,v183=v40+1->K48 (v183,l169)))) (0,([]:List Int)))/\(c49=false->Z (aG.mk b.roots l41 ([]:List Int) dd r9 ([]:List aD))))) (0,([]:List ay))
theorem Hn (b:aG) (nodes edges:List Int) (outer:List a6) (f4:Int->Int) (D4:Int->Prop) (f5:Int->a6) (D5:Int->Prop) (h:qV b nodes edges outer f4 D4 f5 D5):qm b nodes edges outer f4 D4 f5 D5 (fun y=>y=lv b nodes edges outer f4 D4 f5 D5):=by
  unfold qm;obtain⟨h1,h2,h3,h4,h5,h6,h7⟩:=h;have hs:=sU outer;simp only[forall_eq,decide_eq_true_eq,decide_eq_false_iff_not];refine⟨by omega,?_⟩;refine aI.mS nodes.length (fun k t=>t=(nodes.take k).map (gF b edges (bQ outer) f4 f5)) [] (by simp) ?_;rintro k _ K hk rfl IH;dsimp only;have hkl:((nodes.take k).map (gF b edges (bQ outer) f4 f5)).length=k:=by simp;omega
  refine⟨fun hc=>?_,fun hc=>?_⟩
  · have hk2:k<nodes.length:=by omega
    rw[cK hk2];have hm:=List.getElem_mem hk2;have e0:(nodes.take (k+1)).map (gF b edges (bQ outer) f4 f5)=(nodes.take k).map (gF b edges (bQ outer) f4 f5)++[gF b edges (bQ outer) f4 f5 nodes[k]]:=by rw[List.take_succ_eq_append_getElem hk2,List.map_append];rfl
    have hi:=h4 _ hm;have hl6:=h6 _ hm;have hd:=h7 _ hm;refine⟨⟨by omega,by omega⟩,hi,hi,h5 _ hm,hi,?_⟩;refine aI.mS (at' b.nodes nodes[k]).links.length (fun j t=>t=((at' b.nodes nodes[k]).links.take j).map (fun l=>if 0<=c7 edges l then c7 edges l else edges.length+eJ (bQ outer) (f5 l))) [] (by simp) ?_;rintro j _ K2 hj rfl IH2;dsimp only;generalize hL:(at' b.nodes nodes[k]).links=L at *;refine⟨fun hc2=>?_,fun hc2=>?_⟩
    · have hj2:j<L.length:=by omega
      rw[cK hj2];have e:=List.take_succ_eq_append_getElem hj2;have hb:=Eb edges L[j];have hsl:=E7 (bQ outer) (f5 L[j]);refine⟨⟨by omega,by omega⟩,by simpa using h2,fun h8=>⟨by simp;omega,by simp only[bh];omega,IH2 hj2 _ ?_⟩,fun h8=>⟨hd _ (List.getElem_mem hj2) (fun hmem=>h8 (hb.2.2.2 hmem)),by simp only[jH];omega,by simp only[bh];omega,by simp;omega,by simp only[bh];omega,IH2 hj2 _ ?_⟩⟩
      · rw[e,List.map_append];simp[h8]
      · rw[e,List.map_append];simp[h8]
    · refine⟨by omega,by simp only[bh];omega,IH hk2 _ ?_⟩
      rw[e0,gF,hL,show j=L.length by omega,List.take_length]
  · rw[lv,show k=nodes.length by omega,List.take_length]
abbrev nH (l:Int):a6:=gJ (97+l)
abbrev p8 (l:List aD):Prop:=l.length<=1048576
abbrev xo (l:List aD):List aD:=l
def oq (s:List aD) (Z:(List aD)->Prop):Prop:=
  ∀ c2:Bool,(c2=true->s=[])->((c2=true->Z [])/\(c2=false->(([]:List aD).length+s.length<=1073741824)/\∀ l7:List aD,l7=([]:List aD)++s->Z l7))
theorem D9 (l:List aD) (h:p8 l):oq l (fun y=>y=xo l):=by
  unfold oq;intro c hc;refine⟨fun h1=>(hc h1).symm,fun _=>⟨by simp;omega,?_⟩⟩;rintro _ rfl;simp
theorem ja {α:Type} [Inhabited α] {l:List α} {k:Nat} (h:k<l.length):l.take (k+1)=l.take k++[at' l (k:Int)]:=by rw[cK h];exact List.take_succ_eq_append_getElem h
structure qy (b:aG):Prop where
  n:b.nodes.length<=1048576
  s:b.sites.length<=1048576
  o:b.outer.length<=1048576
  i:b.inner.length<=1048576
  l:∀ k,k<b.nodes.length->(at' b.nodes (k:Int)).links.length<=1048576
abbrev ye (b:aG):aG:=b
def th (b:aG) (Z:aG->Prop):Prop:=
  (mn b.sites)/\∀ r7:List Int,r7=ui b.sites->(mJ b.outer)/\∀ r10:List a6,r10=rE b.outer->(p8 b.inner)/\∀ r13:List aD,r13=xo b.inner->∀ len156:Int,len156=(b.nodes.length:Int)->aI (σ:=Int × (List ay)) (fun (e7,l190) K201=>∀ c202:Bool,c202=decide (e7<len156)->((c202=true->(0<=e7/\e7<b.nodes.length)/\∀ x205:ay,x205=at' b.nodes e7->(mn x205.links)/\∀ r227:List Int,r227=ui x205.links->(l190.length+1<=1073741824)/\∀ l230:List ay,l230=l190++[(ay.mk x205.control x205.parent r227)]->(bh (e7+1))/\∀ v275:Int,v275=e7+1->K201 (v275,l230))/\(c202=false->Z (aG.mk b.roots l190 r7 b.edges r10 r13)))) (0,([]:List ay))
theorem Io (b:aG) (h:qy b):th b (fun y=>y=ye b):=by
  unfold th;obtain⟨h1,h2,h3,h4,h5⟩:=h;simp only[forall_eq,decide_eq_true_eq,decide_eq_false_iff_not,ui,rE,xo];refine⟨h2,h3,h4,?_⟩;refine aI.mS b.nodes.length (fun k t=>t=b.nodes.take k) [] (by simp) ?_;rintro k _ K hk rfl IH;dsimp only;refine⟨fun hc=>?_,fun hc=>?_⟩
  · have hk2:k<b.nodes.length:=by omega
    exact⟨⟨by omega,by omega⟩,h5 k hk2,by simp;omega,by simp only[bh];omega,IH hk2 _ (ja hk2).symm⟩
  · rw[show k=b.nodes.length by omega,List.take_length]
theorem cM.ownPre {sig:cP} {b:aG} (h:cM sig b):qy b:=
  ⟨by have:=h.len;omega,by have:=h.slen;omega,by have:=h.outer;omega,by have:=h.inner;omega,fun k hk=>by have:=h.kq (i:=k) (by omega);omega⟩
def nh (sig:cP) (b:aG):aG × Bool:=if fQ sig b then (b,true) else (⟨0,[],[],0,[],[]⟩,false)
abbrev jI:=nh
abbrev pT (sig:cP) (b:aG):Prop:=cv sig b
def oX (sig:List Control) (b:aG) (Z:(aG × Bool)->Prop):Prop:=
  (cv sig b)/\∀ r6:Bool,r6=fQ sig b->((r6=true->(qy b)/\∀ r15:aG,r15=ye b->Z (r15,true))/\(r6=false->Z ((aG.mk 0 [] [] 0 [] []),false)))
theorem FY (sig:cP) (b:aG) (h:pT sig b):oX sig b (fun y=>y=jI sig b):=by
  unfold oX;simp only[forall_eq,ye];refine⟨h,fun h1=>⟨(fV h1).ownPre,?_⟩,fun h1=>?_⟩
  · rw[jI,nh,if_pos h1]
  · rw[jI,nh,if_neg (by rw[h1];simp)]
theorem xu {l:List a6} (h:db l=true):l.Pairwise (·<·):=by
  simp only[db,Bool.and_eq_true,decide_eq_true_eq,List.all_eq_true,List.mem_range,l9,Bool.or_eq_true,Go.Proofs.bytesLess_eq] at h;have h1:∀ i,(hi:i+1<l.length)->l[i]<l[i+1]:=fun i hi=>by
    have:=(h.2 (i+1) hi).2;simpa[hi,show i<l.length by omega] using this
  rw[List.pairwise_iff_getElem];intro i j hi hj hij;obtain⟨d,rfl⟩:∃ d,j=i+1+d:=⟨j - i - 1,by omega⟩
  induction d with
  | zero=>exact h1 i hj
  | succ d ih=>exact fc (ih (by omega) (by omega)) (h1 (i+1+d) hj)
theorem nI {l:List a6} (h:l.Pairwise (·<·)):bQ l=l:=DW (lF l).1 h (lF l).2
theorem rU {sig:cP} {b:aG} (h:fQ sig b=true):b.outer.Pairwise (·<·):=by
  simp only[fQ,Bool.and_eq_true] at h;exact xu h.1.1.1.1.2
def dm (kind:Int->Bool) (links:Int->Int) (one:Bool) (b:aG) (k:Int):ay:=
  ⟨(at' b.nodes k).control,if 0<=(at' b.nodes k).parent/\kind (at' b.nodes k).parent=true then dq kind (at' b.nodes k).parent.toNat else if one=true then -1 else (at' b.nodes k).parent,(at' b.nodes k).links.map links⟩
def iO (b:aG) (kind:Int->Bool) (links:Int->Int) (one:Bool):List ay:=(cL kind b.nodes.length).map (dm kind links one b)
abbrev uD (b:aG) (kind:List Bool) (is:Bool) (links:List Int) (one:Bool):List ay:=iO b (fun k=>at' kind k == is) (fun l=>at' links l) one
structure pK (b:aG) (kind:List Bool) (is:Bool) (links:List Int) (_:Bool):Prop where
  d:pj b
  k:kind.length=b.nodes.length
  l:∀ k:Int,0<=k->k<b.nodes.length->(at' b.nodes k).links.length<=1048576
  r:∀ k:Int,0<=k->k<b.nodes.length->(at' kind k == is)=true->∀ l ∈ (at' b.nodes k).links,0<=l/\l<links.length
def oJ (b:aG) (kind:List Bool) (is:Bool) (links:List Int) (one:Bool) (Z:(List ay)->Prop):Prop:=
  aI (σ:=Int × (List Int) × (List ay)) (fun (i19,l20,l21) K26=>∀ len27:Int,len27=(b.nodes.length:Int)->∀ c29:Bool,c29=decide (i19<len27)->((c29=true->∀ len31:Int,len31=(l21.length:Int)->(l20.length+1<=1073741824)/\∀ l34:List Int,l34=l20++[len31]->(0<=i19/\i19<kind.length)/\∀ x45:Bool,x45=at' kind i19->∀ c47:Bool,c47 = !(x45 == is)->((c47=true->(bh (i19+1))/\∀ v50:Int,v50=i19+1->K26 (v50,l34,l21))/\(c47=false->(0<=i19/\i19<b.nodes.length)/\∀ x53:ay,x53=at' b.nodes i19->dI (fun (J55:Bool->Prop)=>∀ c296:Bool,c296=decide (0<=x53.parent)->((c296=true->(0<=x53.parent/\x53.parent<kind.length)/\∀ x299:Bool,x299=at' kind x53.parent->∀ c301:Bool,c301=(x299 == is)->J55 (c301))/\(c296=false->J55 (false)))) (fun b58=>((b58=true->(0<=x53.parent/\x53.parent<l34.length)/\∀ x68:Int,x68=at' l34 x53.parent->aI (σ:=Int × (List Int)) (fun (k87,l88) K94=>(0<=i19/\i19<b.nodes.length)/\∀ x96:ay,x96=at' b.nodes i19->∀ len98:Int,len98=(x96.links.length:Int)->∀ c100:Bool,c100=decide (k87<len98)->((c100=true->(0<=i19/\i19<b.nodes.length)/\∀ x103:ay,x103=at' b.nodes i19->(0<=k87/\k87<x96.links.length)/\∀ x107:Int,x107=at' x96.links k87->(0<=x107/\x107<links.length)/\∀ x110:Int,x110=at' links x107->(l88.length+1<=1073741824)/\∀ l113:List Int,l113=l88++[x110]->(bh (k87+1))/\∀ v125:Int,v125=k87+1->K94 (v125,l113))/\(c100=false->(0<=i19/\i19<b.nodes.length)/\∀ x128:ay,x128=at' b.nodes i19->(l21.length+1<=1073741824)/\∀ l133:List ay,l133=l21++[(ay.mk x96.control x68 l88)]->(bh (i19+1))/\∀ v144:Int,v144=i19+1->K26 (v144,l34,l133)))) (0,([]:List Int)))/\(b58=false->((one=true->aI (σ:=Int × (List Int)) (fun (k162,l163) K169=>(0<=i19/\i19<b.nodes.length)/\∀ x171:ay,x171=at' b.nodes i19->∀ len173:Int,len173=(x171.links.length:Int)->∀ c175:Bool,c175=decide (k162<len173)->((c175=true->(0<=i19/\i19<b.nodes.length)/\∀ x178:ay,x178=at' b.nodes i19->(0<=k162/\k162<x171.links.length)/\∀ x182:Int,x182=at' x171.links k162->(0<=x182/\x182<links.length)/\∀ x185:Int,x185=at' links x182->(l163.length+1<=1073741824)/\∀ l188:List Int,l188=l163++[x185]->(bh (k162+1))/\∀ v200:Int,v200=k162+1->K169 (v200,l188))/\(c175=false->(0<=i19/\i19<b.nodes.length)/\∀ x203:ay,x203=at' b.nodes i19->(l21.length+1<=1073741824)/\∀ l208:List ay,l208=l21++[(ay.mk x171.control (-1) l163)]->(bh (i19+1))/\∀ v219:Int,v219=i19+1->K26 (v219,l34,l208)))) (0,([]:List Int)))/\(one=false->aI (σ:=Int × (List Int)) (fun (k237,l238) K244=>(0<=i19/\i19<b.nodes.length)/\∀ x246:ay,x246=at' b.nodes i19->∀ len248:Int,len248=(x246.links.length:Int)->∀ c250:Bool,c250=decide (k237<len248)->((c250=true->(0<=i19/\i19<b.nodes.length)/\∀ x253:ay,x253=at' b.nodes i19->(0<=k237/\k237<x246.links.length)/\∀ x257:Int,x257=at' x246.links k237->(0<=x257/\x257<links.length)/\∀ x260:Int,x260=at' links x257->(l238.length+1<=1073741824)/\∀ l263:List Int,l263=l238++[x260]->(bh (k237+1))/\∀ v275:Int,v275=k237+1->K244 (v275,l263))/\(c250=false->(0<=i19/\i19<b.nodes.length)/\∀ x278:ay,x278=at' b.nodes i19->(l21.length+1<=1073741824)/\∀ l283:List ay,l283=l21++[(ay.mk x246.control x53.parent l238)]->(bh (i19+1))/\∀ v294:Int,v294=i19+1->K26 (v294,l34,l283)))) (0,([]:List Int))))))))))/\(c29=false->Z l21))) (0,([]:List Int),([]:List ay))
theorem Fo (b:aG) (kind:List Bool) (is:Bool) (links:List Int) (one:Bool) (h:pK b kind is links one):oJ b kind is links one (fun y=>y=uD b kind is links one):=by
  unfold oJ;obtain⟨⟨hn,hd⟩,hk0,hl,hr⟩:=h;simp only[forall_eq,decide_eq_true_eq,decide_eq_false_iff_not];refine aI.up b.nodes.length (fun s=>s.1) (fun k (t:List Int × List ay)=>((k:Int),t)) (fun _ _=>rfl) (fun k t=>t.1=(List.range k).map (fun i=>dq (fun k=>at' kind k == is) i)/\t.2=(cL (fun k=>at' kind k == is) k).map (dm (fun k=>at' kind k == is) (fun l=>at' links l) one b)) ([],[]) rfl ⟨rfl,rfl⟩ ?_;rintro k ⟨_,_⟩ K hk ⟨rfl,rfl⟩ IH;dsimp only;have hle:=k8 (fun k=>at' kind k == is) k;have hlen:((cL (fun k=>at' kind k == is) k).map (dm (fun k=>at' kind k == is) (fun l=>at' links l) one b)).length=(cL (fun k=>at' kind k == is) k).length:=List.length_map _;have hto:(List.range k).map (fun i=>dq (fun k=>at' kind k == is) i)++[((((cL (fun k=>at' kind k == is) k).map (dm (fun k=>at' kind k == is) (fun l=>at' links l) one b)).length:Nat):Int)]=(List.range (k+1)).map (fun i=>dq (fun k=>at' kind k == is) i):=by
    rw[hlen,List.range_succ,List.map_append];rfl
  refine⟨fun hc=>⟨by simp;omega,⟨by omega,by omega⟩,?_,?_⟩,fun hc=>?_⟩
  · intro h1
    refine⟨by simp only[bh];omega,?_⟩;rw[show (k:Int)+1=((k+1:Nat):Int) by omega];refine IH (by omega) (_,_) ⟨hto,?_⟩;rw[qS _ (by simpa using h1)]
  · intro h1
    have h1':(at' kind (k:Int) == is)=true:=by simpa using h1
    have hk1:(0:Int)<=k/\(k:Int)<b.nodes.length:=⟨by omega,by omega⟩
    have hpar:=hd k hk1.1 hk1.2;have hll:=hl k hk1.1 hk1.2;have hrr:=hr k hk1.1 hk1.2 h1';have inner:∀ (q:Int),q=(dm (fun k=>at' kind k == is) (fun l=>at' links l) one b k).parent->aI (σ:=Int × List Int) (fun s K94=>(0<=(k:Int)/\(k:Int)<b.nodes.length)/\(s.1<((at' b.nodes (k:Int)).links.length:Int)->(0<=(k:Int)/\(k:Int)<b.nodes.length)/\(0<=s.1/\s.1<(at' b.nodes (k:Int)).links.length)/\(0<=at' (at' b.nodes (k:Int)).links s.1/\at' (at' b.nodes (k:Int)).links s.1<links.length)/\s.2.length+1<=1073741824/\bh (s.1+1)/\K94 (s.1+1,s.2++[at' links (at' (at' b.nodes (k:Int)).links s.1)]))/\(¬ s.1<((at' b.nodes (k:Int)).links.length:Int)->(0<=(k:Int)/\(k:Int)<b.nodes.length)/\((cL (fun k=>at' kind k == is) k).map (dm (fun k=>at' kind k == is) (fun l=>at' links l) one b)).length+1<=1073741824/\bh ((k:Int)+1) /\
        K ((k:Int)+1,(List.range k).map (fun i=>dq (fun k=>at' kind k == is) i)++[((((cL (fun k=>at' kind k == is) k).map (dm (fun k=>at' kind k == is) (fun l=>at' links l) one b)).length:Nat):Int)],(cL (fun k=>at' kind k == is) k).map (dm (fun k=>at' kind k == is) (fun l=>at' links l) one b)++[ay.mk (at' b.nodes (k:Int)).control q s.2]))) (0,[]):=by
      rintro q rfl;refine aI.mS (at' b.nodes (k:Int)).links.length (fun j t=>t=((at' b.nodes (k:Int)).links.take j).map fun l=>at' links l) [] (by simp) ?_;rintro j _ K2 hj rfl IH2;dsimp only;refine⟨hk1,fun h2=>⟨hk1,⟨by omega,h2⟩,?_,by simp;omega,by simp only[bh];omega,IH2 (by omega) _ ?_⟩,fun h2=>⟨hk1,by omega,by simp only[bh];omega,?_⟩⟩
      · exact hrr _ (at_mem ⟨by omega,h2⟩)
      · rw[ja (by omega),List.map_append];rfl
      · rw[show (k:Int)+1=((k+1:Nat):Int) by omega]
        refine IH (by omega) (_,_) ⟨hto,?_⟩;rw[ow _ h1',List.map_append,show j=(at' b.nodes (k:Int)).links.length by omega,List.take_length]
        rfl
    refine⟨hk1,fun c=>c=(decide (0<=(at' b.nodes (k:Int)).parent) && (at' kind (at' b.nodes (k:Int)).parent == is)),⟨fun h2=>⟨⟨h2,by omega⟩,?_⟩,fun h2=>?_⟩,?_⟩
    · rw[decide_eq_true h2,Bool.true_and]
    · rw[decide_eq_false h2,Bool.false_and]
    · rintro _ rfl
      refine⟨fun h2=>?_,fun h2=>⟨fun h3=>?_,fun h3=>?_⟩⟩
      · simp only[Bool.and_eq_true,decide_eq_true_eq] at h2
        rw[hto];have e:at' ((List.range (k+1)).map (fun i=>dq (fun k=>at' kind k == is) i)) (at' b.nodes (k:Int)).parent=dq (fun k=>at' kind k == is) (at' b.nodes (k:Int)).parent.toNat:=by
          obtain⟨n,hn⟩:∃ n:Nat,(at' b.nodes (k:Int)).parent=n:=⟨(at' b.nodes (k:Int)).parent.toNat,by omega⟩
          rw[hn,cK (by simp;omega)];simp
        refine⟨⟨h2.1,by simp;omega⟩,?_⟩;rw[e,<- hto];exact inner _ (by rw[dm];simp only[h2,and_self,if_true])
      · exact inner _ (by
          rw[dm];simp only[Bool.and_eq_false_iff,decide_eq_false_iff_not] at h2;simp only;rw[if_neg (fun h4=>by rcases h2 with h2 | h2;exact h2 h4.1;exact absurd (h2.symm.trans h4.2) (by decide)),if_pos h3])
      · exact inner _ (by
          rw[dm];simp only[Bool.and_eq_false_iff,decide_eq_false_iff_not] at h2;simp only;rw[if_neg (fun h4=>by rcases h2 with h2 | h2;exact h2 h4.1;exact absurd (h2.symm.trans h4.2) (by decide)),if_neg (by rw[h3];simp)])
  · rw[uD,iO,show k=b.nodes.length by omega]
end Go.Ab.Vg
