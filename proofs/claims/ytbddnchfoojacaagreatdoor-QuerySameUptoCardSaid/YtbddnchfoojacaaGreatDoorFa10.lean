/-
  The closed facts of the row and of the card of QuerySame, one by one. Own text, written by program.
-/
import Derived.Test.YtbddnchfoojacaaGreatDoorRows
import Derived.Test.YtbddnchfoojacaaGreatDoorCards
import Derived.JoinedOf
import Derived.SevenTiedAt
import Derived.KernelRfl
import Derived.Test.YtbddnchfoojacaaGreatDoorClo
set_option linter.all false
namespace Go.Proofs.YtbddnchfoojacaaGreatDoor.querySame
set_option maxRecDepth 100000
open Go.Exo
def clo:List Nat:=[3,4,8,18,26,27,46,77,78,81,121,164,126,166,234,123,165,23,35,68,36,37,69,70,118,119,71,120,124,79,125,80,28,47,48,82,83,45,76,19,30,31,54,86,129,169,170,183,181,171,52,239,217,53,237,177,247,329,420,248,330,320,321,332,421,516,589,525,594,412,413,414,422,526,595,527,528,513,588,529,423,530,596,625,626,331,319,406,503,504,505,584,133,176,56,182,238,325,415,416,417,175,173,55,96,97,138,241,243,242,244,245,326,131,246,327,418,517,518,590,519,520,591,521,522,592,136,523,524,593,419,328,174,240,172,130,132,87,88,89,134,178,179,90,91,135,180,92,93,94,137,95,29,49,50,84,85,128,127,167,168,235,318,405,236,322,407,506,507,408,508,585,509,510,587,624,629,637,638,232,644,645,639,640,646,647,648,649,586,511,323,409,512,410,514,324,411,515,51,20,32,57,58,98,99,139,184,249,185,186,250,253,342,428,429,430,13,24,39,38,72,40,41,73,122,43,74,44,75,42,431,433,432,532,333,350,436,14,12,437,251,335,334,424,252,336,337,261,348,338,340,339,425,341,427,426,531,254,343,285,381,255,256,345,344,434,257,259,260,258,347,346,435,262,349,351,352,353,354,438,439,440,441,355,356,357,140,141,142,187,189,269,268,190,144,263,188,265,266,267,264,191,192,193,270,287,271,358,442,533,597,627,636,642,643,443,534,598,628,599,600,601,630,536,444,535,602,631,445,446,143,100,145,146,148,196,147,194,272,195,162,231,273,359,365,450,360,447,361,314,315,362,448,449,537,363,364,366,367,102,101,149,59,64,115,116,163,233,66,103,150,197,198,151,199,200,274,368,60,104,106,61,105,107,152,108,109,153,110,33,63,114,62,112,160,113,161,223,224,313,225,226,316,317,404,227,228,229,230,65,117,111,154,202,201,275,276,277,369,280,451,453,538,452,370,371,454,214,284,294,295,296,386,468,548,492,469,549,539,550,552,486,470,542,551,471,553,472,473,485,558,304,395,474,475,554,611,618,619,476,477,555,297,300,389,481,556,482,483,557,398,612,394,484,487,488,559,299,490,560,489,494,491,493,495,496,497,561,562,498,563,564,613,614,565,566,567,568,569,615,570,616,634,571,617,572,573,278,372,373,455,213,298,387,478,479,388,480,374,380,292,279,375,456,377,378,458,541,308,540,604,603,632,459,376,457,205,283,282,379,460,461,543,605,207,203,204,281,155,206,156,208,286,288,382,383,289,384,462,463,544,606,607,633,641,464,545,465,546,608,609,209,210,211,291,290,385,466,467,547,610,212,293,157,215,301,302,392,499,574,575,620,576,577,621,622,635,578,579,580,581,393,390,391,303,216,158,218,305,396,397,500,582,306,219,307,399,400,401,402,501,502,583,623,159,220,309,221,310,222,311,312,403,5,9,21,22,34,67,10,6,11,15,7,16,17,25]
theorem clo_n:1+(Tryz.prog.funcs.toList.map fun g=>(Tryz.prog.leadsTo g).length+1).sum=2177:=by kernel_rfl
theorem clo_l:cloAll (Tryz.prog.funcs.toList.map Tryz.prog.leadsTo) 2177 3=clo:=by kernel_rfl
theorem clo_eq:Tryz.prog.closure 3=clo:=closure_of clo_n clo_l
theorem ip_eq:Tryz.prog.inPlace 3=Rows.querySameUptoRow.inPlace:=inPlace_of clo_eq (by kernel_rfl)
theorem unf_eq:Tryz.prog.unfollowed 3=true:=unfollowed_of (g:=29) clo_eq (by kernel_rfl) (by kernel_rfl)
theorem vn_eq:Tryz.prog.varsNamed 3=Rows.querySameUptoRow.named:=varsNamed_of clo_eq (by kernel_rfl)
theorem goes_no:Tryz.prog.funcs.toList.any Func.goes=false:=by kernel_rfl
theorem k_wf:Rows.querySameUptoRow.wf (OpenSpec.ofChange Rows.querySameSpec)=true:=by kernel_rfl
theorem lo_sz:Tryz.prog.types.size=686:=by kernel_rfl
theorem lo0:((List.range 98).all fun j=>rowFine Tryz.prog (0+j))=true:=by kernel_rfl
theorem lo1:((List.range 98).all fun j=>rowFine Tryz.prog (98+j))=true:=by kernel_rfl
theorem lo2:((List.range 98).all fun j=>rowFine Tryz.prog (196+j))=true:=by kernel_rfl
theorem lo3:((List.range 98).all fun j=>rowFine Tryz.prog (294+j))=true:=by kernel_rfl
theorem lo4:((List.range 98).all fun j=>rowFine Tryz.prog (392+j))=true:=by kernel_rfl
theorem lo5:((List.range 98).all fun j=>rowFine Tryz.prog (490+j))=true:=by kernel_rfl
theorem lo6:((List.range 98).all fun j=>rowFine Tryz.prog (588+j))=true:=by kernel_rfl
theorem lo_at {a i:Nat}(h:((List.range 98).all fun j=>rowFine Tryz.prog (a+j))=true)(h1:a≤i)(h2:i<a+98):rowFine Tryz.prog i=true:=by
 have:=List.all_eq_true.1 h (i-a) (List.mem_range.2 (by omega))
 rwa [show a+(i-a)=i by omega] at this
theorem lo_all (i:Nat)(h:i<686):rowFine Tryz.prog i=true:=by
 by_cases h0:i<98
 ·exact lo_at lo0 (by omega) (by omega)
 by_cases h1:i<196
 ·exact lo_at lo1 (by omega) (by omega)
 by_cases h2:i<294
 ·exact lo_at lo2 (by omega) (by omega)
 by_cases h3:i<392
 ·exact lo_at lo3 (by omega) (by omega)
 by_cases h4:i<490
 ·exact lo_at lo4 (by omega) (by omega)
 by_cases h5:i<588
 ·exact lo_at lo5 (by omega) (by omega)
 exact lo_at lo6 (by omega) (by omega)
theorem k_laid:laidOutB Tryz.prog=true:=by
 unfold laidOutB
 rw[Bool.and_eq_true,Bool.and_eq_true]
 refine⟨⟨?_,by kernel_rfl⟩,by kernel_rfl⟩
 rw[lo_sz]
 exact List.all_eq_true.2 fun i hi=>lo_all i (List.mem_range.1 hi)
theorem k_maps:mapsRowed Tryz.prog=true:=by kernel_rfl
theorem k_read:Tryz.f3.params.all (Tryz.prog.readableRec ·)=true:=by kernel_rfl
theorem k_tie:namedTie Tryz.prog Rows.querySameUptoRow.named Rows.querySameSpec.vars=true:=by kernel_rfl
theorem k_inPlace:(Rows.querySameUptoRow.inPlace==Tryz.prog.inPlace 3)=true:=by rw[ip_eq];exact beq_self_eq_true _
theorem k_unf:(Rows.querySameUptoRow.unfollowed==Tryz.prog.unfollowed 3)=true:=by rw[unf_eq];rfl
theorem k_rec:(Rows.querySameUptoRow.recurses==Tryz.prog.recurses 3)=true:=by rw[recurses_of unf_eq];rfl
theorem k_named:(Rows.querySameUptoRow.named==Tryz.prog.varsNamed 3)=true:=by rw[vn_eq];exact beq_self_eq_true _
theorem k_pk:(Rows.querySameUptoRow.plainKeys==Tryz.prog.plainKeys)=true:=by kernel_rfl
theorem k_sh:Tryz.prog.stopsHeard=true:=by kernel_rfl
theorem k_me:Tryz.prog.mayEnter=true:=by kernel_rfl
theorem k_lf:(Rows.querySameUptoRow.lifted==Tryz.prog.liftsFinal)=true:=by kernel_rfl
theorem k_mk:(Tryz.prog.make==some Rows.querySameUptoRow.make)=true:=by kernel_rfl
theorem k_stops:(Tryz.prog.stops==[])=true:=by kernel_rfl
theorem k_knobs:(Tryz.prog.stopKnobs==[])=true:=by kernel_rfl
theorem k_own:ownKnob Tryz.prog.godebug=none:=by kernel_rfl
theorem k_mainIs:Tryz.prog.mainIs=some (Rows.querySameUptoCard.stood.harness.1,Rows.querySameUptoCard.stood.harness.2.toList):=by kernel_rfl
theorem k_looks:true=Tryz.prog.looks []:=by kernel_rfl
theorem k_fnamed:Tryz.prog.funcNamed Rows.querySameUptoRow.func=some 3:=by kernel_rfl
theorem k_goes:false=Rows.querySameUptoRow.goesBy Tryz.prog:=(goesAt_of goes_no _ _).symm
theorem k_wft:Rows.querySameUptoRow.wfByText (Rows.OpenSpec.upto Rows.querySameSpec)=true:=by kernel_rfl
theorem k_inst:Tryz.f3.isInstance Tryz.prog Rows.querySameUptoRow.origin Rows.querySameUptoRow.targs:=of_decide_eq_true (by kernel_rfl)
theorem closed:joinedFacts Tryz.prog 3 Tryz.f3 Rows.querySameSpec Rows.querySameUptoRow=true:=by
 unfold joinedFacts
 simp only[Bool.and_eq_true]
 repeat' apply And.intro
 ·exact k_wf
 ·exact k_laid
 ·exact k_maps
 ·exact k_read
 ·exact k_tie
 ·kernel_rfl
 ·exact k_stops
 ·kernel_rfl
 ·exact k_knobs
 ·exact k_inPlace
 ·exact k_unf
 ·exact k_rec
 ·exact k_named
 ·kernel_rfl
 ·kernel_rfl
 ·kernel_rfl
 ·kernel_rfl
 ·kernel_rfl
 ·kernel_rfl
 ·kernel_rfl
 ·kernel_rfl
 ·kernel_rfl
 ·exact k_pk
 ·kernel_rfl
 ·exact k_sh
 ·exact k_me
 ·exact k_lf
 ·exact k_mk
 ·kernel_rfl
 ·kernel_rfl
 ·kernel_rfl
 ·kernel_rfl
end Go.Proofs.YtbddnchfoojacaaGreatDoor.querySame
